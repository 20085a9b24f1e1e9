/- Parts of the proof of FnExactAreSameFormSaid: C_Tl K_Tl C_Tk K_Tk C_Tj K_Tj Tj Tk C_Tf K_Tf Tf Tl C_Tg K_Tg Tg. -/
import Derived.Test.YtjpdjjeddagjlaaA3
import Derived.Test.YtjpdjjeddagjlaaA4
import Derived.Test.YtjpdjjeddagjlaaProg
import Derived.KernelRfl
import Derived.Test.YtjpdjjeddagjlaaA7
set_option linter.all false
/- The abstract code of some functions (written by a program of mine from the translation, by way of prepF). -/
namespace Go.Ab.C
open Go.Ab
def impl_CropHeap : AFn :=
  ⟨1, 76, [.cellN 2 4, .tmp 3],
    .seq (.ops [(none, .box 1 (.t 0)),
       (none, .alloc 2 [(.I 0), (.I 0), (.I 0), .nil]),
       (none, .mv 3 (.c (.B false)))])
    (.seq (.seq (.ops [(none, .loadN 10 4 (.t 1)),
         (none, .call (some 11) F.impl_IsHeap [(.t 10)]),
         (none, .un 12 .not (.t 11)),
         (none, .mv 13 (.t 12)),
         (some (13, false), .fieldAddr 14 (.t 1) 3),
         (some (13, false), .load1 15 (.t 14)),
         (some (13, false), .len 16 (.t 15)),
         (some (13, false), .bin 17 .eql (.t 16) (.c (.I 0))),
         (none, .pick 18 (.t 13) (.c (.B true)) (.t 17))])
      (.cond (.t 18) (.seq (.ops [(none, .build 19 [(.I 0), (.I 0), (.I 0), .nil] []),
           (none, .store 4 (.t 2) (.t 19)),
           (none, .mv 3 (.c (.B false)))])
        (.ret))
       (.skip)))
     (.seq (.draw [⟨(none, .fieldAddr 20 (.t 1) 3), [], []⟩,
         ⟨(none, .load1 21 (.t 20)), [], []⟩,
         ⟨(none, .idxS 22 3 (.t 21) (.c (.I 0))), [], []⟩,
         ⟨(none, .loadN 23 3 (.t 22)), [], []⟩,
         ⟨(none, .fieldAddr 24 (.t 1) 3), [], []⟩,
         ⟨(none, .load1 25 (.t 24)), [], []⟩,
         ⟨(none, .idxS 26 3 (.t 25) (.c (.I 0))), [], []⟩,
         ⟨(none, .loadN 27 3 (.t 26)), [], []⟩,
         ⟨(none, .alloc 4 [(.I 0), (.I 0), (.I 0)]), [], []⟩,
         ⟨(none, .alloc 5 [(.I 0), (.I 0), (.I 0)]), [], []⟩,
         ⟨(none, .store 3 (.t 4) (.t 23)), [], [4, 5, 6, 7]⟩,
         ⟨(none, .store 3 (.t 5) (.t 27)), [], []⟩])
      (.seq (.seq (.ops [(none, .fieldAddr 28 (.t 1) 3),
           (none, .load1 29 (.t 28)),
           (none, .len 30 (.t 29)),
           (none, .mv 31 (.c (.I 0)))])
        (.block 0 (.loop (.seq (.ops [(none, .bin 32 .lss (.t 31) (.t 30))])
           (.seq (.cond (.t 32) (.skip)
             (.exit 0))
            (.seq (.block 1 (.seq (.ops [(none, .idxS 33 3 (.t 29) (.t 31)),
                  (none, .loadN 34 3 (.t 33)),
                  (none, .alloc 7 [(.I 0), (.I 0), (.I 0)]),
                  (none, .store 3 (.t 7) (.t 34))])
               (.seq (.ops [(none, .mv 35 (.c (.I 0)))])
                (.block 2 (.loop (.seq (.ops [(none, .bin 36 .lss (.t 35) (.c (.I 3)))])
                   (.seq (.cond (.t 36) (.skip)
                     (.exit 2))
                    (.seq (.block 3 (.seq (.ops [(none, .mv 37 (.t 35)),
                          (none, .mv 8 (.t 37))])
                       (.draw [⟨(none, .mv 38 (.t 8)), [], []⟩,
                          ⟨(none, .mv 39 (.t 8)), [], []⟩,
                          ⟨(none, .mv 40 (.t 8)), [], []⟩,
                          ⟨(none, .idxA 41 3 1 (.t 4) (.t 40)), [], []⟩,
                          ⟨(none, .load1 42 (.t 41)), [], []⟩,
                          ⟨(none, .mv 43 (.t 8)), [], []⟩,
                          ⟨(none, .idxA 44 3 1 (.t 7) (.t 43)), [], []⟩,
                          ⟨(none, .load1 45 (.t 44)), [], []⟩,
                          ⟨(none, .mm 46 false [(.t 42), (.t 45)]), [], []⟩,
                          ⟨(none, .mv 47 (.t 8)), [], []⟩,
                          ⟨(none, .idxA 48 3 1 (.t 5) (.t 47)), [], []⟩,
                          ⟨(none, .load1 49 (.t 48)), [], []⟩,
                          ⟨(none, .mv 50 (.t 8)), [], []⟩,
                          ⟨(none, .idxA 51 3 1 (.t 7) (.t 50)), [], []⟩,
                          ⟨(none, .load1 52 (.t 51)), [], []⟩,
                          ⟨(none, .mm 53 true [(.t 49), (.t 52)]), [], []⟩,
                          ⟨(none, .idxA 54 3 1 (.t 4) (.t 38)), [], []⟩,
                          ⟨(none, .store 1 (.t 54) (.t 46)), [], [1, 9, 10, 11, 12, 13, 14, 15]⟩,
                          ⟨(none, .idxA 55 3 1 (.t 5) (.t 39)), [], []⟩,
                          ⟨(none, .store 1 (.t 55) (.t 53)), [], []⟩])))
                     (.ops [(none, .bin 56 .add (.t 35) (.c (.I 1))),
                        (none, .mv 35 (.t 56))])))))))))
             (.ops [(none, .bin 57 .add (.t 31) (.c (.I 1))),
                (none, .mv 31 (.t 57))])))))))
       (.seq (.ops [(none, .idxA 58 3 1 (.t 4) (.c (.I 0))),
           (none, .load1 59 (.t 58)),
           (none, .un 60 .neg (.t 59)),
           (none, .idxA 61 3 1 (.t 4) (.c (.I 1))),
           (none, .load1 62 (.t 61)),
           (none, .un 63 .neg (.t 62)),
           (none, .idxA 64 3 1 (.t 4) (.c (.I 2))),
           (none, .load1 65 (.t 64)),
           (none, .un 66 .neg (.t 65)),
           (none, .build 67 [(.I 0), (.I 0), (.I 0)] [(0, 1, (.t 60)), (1, 1, (.t 63)), (2, 1, (.t 66))]),
           (none, .alloc 9 [(.I 0), (.I 0), (.I 0)]),
           (none, .store 3 (.t 9) (.t 67))])
        (.seq (.draw [⟨(none, .loadN 68 4 (.t 1)), [], []⟩,
            ⟨(none, .loadN 69 3 (.t 5)), [], []⟩,
            ⟨(none, .loadN 70 3 (.t 9)), [], []⟩,
            ⟨(none, .build 72 [(.I 0), (.I 0), (.I 0)] [(0, 1, (.c (.I 1))), (1, 1, (.c (.I 1))), (2, 1, (.c (.I 1)))]), [], []⟩,
            ⟨(none, .mkf 74 F.impl_CropHeap_1 [(.t 9)]), [], []⟩,
            ⟨(none, .call (some 71) F.impl_added [(.t 69), (.t 70)]), [], [0, 3, 4]⟩,
            ⟨(none, .call (some 73) F.impl_added [(.t 71), (.t 72)]), [], [0, 4]⟩,
            ⟨(none, .call (some 75) F.impl_Heap_moved [(.t 68), (.t 73), (.t 74)]), [], []⟩,
            ⟨(none, .store 4 (.t 2) (.t 75)), [], []⟩,
            ⟨(none, .mv 3 (.c (.B true))), [], []⟩])
         (.ret))))))⟩
def impl_CropHeap_1 : AFn :=
  ⟨2, 7, [.cellN 3 3],
    .seq (.ops [(none, .box 2 (.t 0)),
       (none, .alloc 3 [(.I 0), (.I 0), (.I 0)])])
    (.seq (.ops [(none, .loadN 4 3 (.t 2)),
        (none, .loadN 5 3 (.t 1)),
        (none, .call (some 6) F.impl_added [(.t 4), (.t 5)]),
        (none, .store 3 (.t 3) (.t 6))])
     (.ret))⟩
def impl_added : AFn :=
  ⟨2, 21, [.cellN 4 3],
    .seq (.ops [(none, .box 2 (.t 0)),
       (none, .box 3 (.t 1)),
       (none, .alloc 4 [(.I 0), (.I 0), (.I 0)])])
    (.seq (.ops [(none, .idxA 5 3 1 (.t 2) (.c (.I 0))),
        (none, .load1 6 (.t 5)),
        (none, .idxA 7 3 1 (.t 3) (.c (.I 0))),
        (none, .load1 8 (.t 7)),
        (none, .bin 9 .add (.t 6) (.t 8)),
        (none, .idxA 10 3 1 (.t 2) (.c (.I 1))),
        (none, .load1 11 (.t 10)),
        (none, .idxA 12 3 1 (.t 3) (.c (.I 1))),
        (none, .load1 13 (.t 12)),
        (none, .bin 14 .add (.t 11) (.t 13)),
        (none, .idxA 15 3 1 (.t 2) (.c (.I 2))),
        (none, .load1 16 (.t 15)),
        (none, .idxA 17 3 1 (.t 3) (.c (.I 2))),
        (none, .load1 18 (.t 17)),
        (none, .bin 19 .add (.t 16) (.t 18)),
        (none, .build 20 [(.I 0), (.I 0), (.I 0)] [(0, 1, (.t 9)), (1, 1, (.t 14)), (2, 1, (.t 19))]),
        (none, .store 3 (.t 4) (.t 20))])
     (.ret))⟩
end Go.Ab.C

/- That the program has this code. -/
namespace Go.Ab.K
open Go Go.Ab
theorem impl_CropHeap : prepF Go.Proofs.Try.prog F.impl_CropHeap = some C.impl_CropHeap := by kernel_rfl
theorem impl_CropHeap_1 : prepF Go.Proofs.Try.prog F.impl_CropHeap_1 = some C.impl_CropHeap_1 := by kernel_rfl
theorem impl_added : prepF Go.Proofs.Try.prog F.impl_added = some C.impl_added := by kernel_rfl
end Go.Ab.K

/- The abstract code of some functions (written by a program of mine from the translation, by way of prepF). -/
namespace Go.Ab.C
open Go.Ab
def impl_Heap_moved : AFn :=
  ⟨3, 29, [.cellN 6 4],
    .seq (.ops [(none, .box 3 (.t 0)),
       (none, .box 4 (.t 1)),
       (none, .alloc 6 [(.I 0), (.I 0), (.I 0), .nil])])
    (.seq (.ops [(none, .mv 7 (.c (.U 0)))])
     (.seq (.seq (.ops [(none, .fieldAddr 10 (.t 3) 3),
          (none, .load1 11 (.t 10)),
          (none, .len 12 (.t 11)),
          (none, .mv 13 (.c (.I 0)))])
       (.block 0 (.loop (.seq (.ops [(none, .bin 14 .lss (.t 13) (.t 12))])
          (.seq (.cond (.t 14) (.skip)
            (.exit 0))
           (.seq (.block 1 (.seq (.ops [(none, .idxS 15 3 (.t 11) (.t 13)),
                 (none, .loadN 16 3 (.t 15)),
                 (none, .alloc 9 [(.I 0), (.I 0), (.I 0)]),
                 (none, .store 3 (.t 9) (.t 16))])
              (.draw [⟨(none, .mv 17 (.t 7)), [], []⟩,
                 ⟨(none, .loadN 18 3 (.t 4)), [], []⟩,
                 ⟨(none, .mv 19 (.t 2)), [], []⟩,
                 ⟨(none, .loadN 20 3 (.t 9)), [], []⟩,
                 ⟨(none, .callV (some 21) (.t 19) [(.t 20)]), [], [0, 1]⟩,
                 ⟨(none, .call (some 22) F.impl_box_index [(.t 18), (.t 21)]), [], [0]⟩,
                 ⟨(none, .bin 23 .shl (.c (.U 1)) (.t 22)), [], []⟩,
                 ⟨(none, .bin 24 .or (.t 17) (.t 23)), [], []⟩,
                 ⟨(none, .mv 7 (.t 24)), [], []⟩])))
            (.ops [(none, .bin 25 .add (.t 13) (.c (.I 1))),
               (none, .mv 13 (.t 25))])))))))
      (.seq (.ops [(none, .loadN 26 3 (.t 4)),
          (none, .mv 27 (.t 7)),
          (none, .call (some 28) F.impl_box_heap [(.t 26), (.t 27)]),
          (none, .store 4 (.t 6) (.t 28))])
       (.ret))))⟩
def impl_turning_of : AFn :=
  ⟨2, 29, [.cellN 4 4],
    .seq (.ops [(none, .box 2 (.t 0)),
       (none, .box 3 (.t 1)),
       (none, .alloc 4 [(.I 0), (.I 0), (.I 0), .nil])])
    (.seq (.ops [(none, .loadN 7 4 (.t 3)),
        (none, .call (some 8) F.impl_Heap_box [(.t 7)]),
        (none, .alloc 5 [(.I 0), (.I 0), (.I 0)]),
        (none, .store 3 (.t 5) (.t 8))])
     (.seq (.draw [⟨(none, .fieldAddr 9 (.t 2) 0), [], []⟩,
         ⟨(none, .idxA 10 3 1 (.t 9) (.c (.I 0))), [], []⟩,
         ⟨(none, .load1 11 (.t 10)), [], []⟩,
         ⟨(none, .idxA 12 3 1 (.t 5) (.t 11)), [], []⟩,
         ⟨(none, .load1 13 (.t 12)), [], []⟩,
         ⟨(none, .fieldAddr 14 (.t 2) 0), [], []⟩,
         ⟨(none, .idxA 15 3 1 (.t 14) (.c (.I 1))), [], []⟩,
         ⟨(none, .load1 16 (.t 15)), [], []⟩,
         ⟨(none, .idxA 17 3 1 (.t 5) (.t 16)), [], []⟩,
         ⟨(none, .load1 18 (.t 17)), [], []⟩,
         ⟨(none, .fieldAddr 19 (.t 2) 0), [], []⟩,
         ⟨(none, .idxA 20 3 1 (.t 19) (.c (.I 2))), [], []⟩,
         ⟨(none, .load1 21 (.t 20)), [], []⟩,
         ⟨(none, .idxA 22 3 1 (.t 5) (.t 21)), [], []⟩,
         ⟨(none, .load1 23 (.t 22)), [], []⟩,
         ⟨(none, .build 24 [(.I 0), (.I 0), (.I 0)] [(0, 1, (.t 13)), (1, 1, (.t 18)), (2, 1, (.t 23))]), [], []⟩,
         ⟨(none, .alloc 6 [(.I 0), (.I 0), (.I 0)]), [], []⟩,
         ⟨(none, .store 3 (.t 6) (.t 24)), [], []⟩])
      (.seq (.ops [(none, .loadN 25 4 (.t 3)),
          (none, .loadN 26 3 (.t 6)),
          (none, .mkf 27 F.impl_turning_of_1 [(.t 2), (.t 6)]),
          (none, .call (some 28) F.impl_Heap_moved [(.t 25), (.t 26), (.t 27)]),
          (none, .store 4 (.t 4) (.t 28))])
       (.ret))))⟩
def impl_turning_of_1 : AFn :=
  ⟨3, 37, [.cellN 4 3],
    .seq (.ops [(none, .box 3 (.t 0)),
       (none, .alloc 4 [(.I 0), (.I 0), (.I 0)])])
    (.seq (.ops [(none, .build 8 [(.I 0), (.I 0), (.I 0)] []),
        (none, .alloc 5 [(.I 0), (.I 0), (.I 0)]),
        (none, .store 3 (.t 5) (.t 8))])
     (.seq (.seq (.ops [(none, .fieldAddr 9 (.t 1) 0),
          (none, .loadN 10 3 (.t 9)),
          (none, .mv 11 (.c (.I 0)))])
       (.block 0 (.loop (.seq (.ops [(none, .bin 12 .lss (.t 11) (.c (.I 3)))])
          (.seq (.cond (.t 12) (.skip)
            (.exit 0))
           (.seq (.block 1 (.seq (.ops [(none, .mv 13 (.t 11)),
                 (none, .index 14 3 1 false (.t 10) (.t 11)),
                 (none, .mv 6 (.t 13)),
                 (none, .mv 7 (.t 14))])
              (.seq (.ops [(none, .mv 15 (.t 6)),
                  (none, .mv 16 (.t 7)),
                  (none, .idxA 17 3 1 (.t 3) (.t 16)),
                  (none, .load1 18 (.t 17)),
                  (none, .idxA 19 3 1 (.t 5) (.t 15)),
                  (none, .store 1 (.t 19) (.t 18))])
               (.seq (.ops [(none, .mv 20 (.t 6)),
                   (none, .fieldAddr 21 (.t 1) 3),
                   (none, .idxA 22 3 1 (.t 21) (.t 20)),
                   (none, .load1 23 (.t 22)),
                   (none, .bin 24 .eql (.t 23) (.c (.I 1)))])
                (.cond (.t 24) (.draw [⟨(none, .mv 25 (.t 6)), [], []⟩,
                    ⟨(none, .mv 26 (.t 6)), [], []⟩,
                    ⟨(none, .idxA 27 3 1 (.t 2) (.t 26)), [], []⟩,
                    ⟨(none, .load1 28 (.t 27)), [], []⟩,
                    ⟨(none, .bin 29 .sub (.t 28) (.c (.I 1))), [], []⟩,
                    ⟨(none, .mv 30 (.t 7)), [], []⟩,
                    ⟨(none, .idxA 31 3 1 (.t 3) (.t 30)), [], []⟩,
                    ⟨(none, .load1 32 (.t 31)), [], []⟩,
                    ⟨(none, .bin 33 .sub (.t 29) (.t 32)), [], []⟩,
                    ⟨(none, .idxA 34 3 1 (.t 5) (.t 25)), [], []⟩,
                    ⟨(none, .store 1 (.t 34) (.t 33)), [], []⟩])
                 (.skip))))))
            (.ops [(none, .bin 35 .add (.t 11) (.c (.I 1))),
               (none, .mv 11 (.t 35))])))))))
      (.seq (.ops [(none, .loadN 36 3 (.t 5)),
          (none, .store 3 (.t 4) (.t 36))])
       (.ret))))⟩
end Go.Ab.C

/- That the program has this code. -/
namespace Go.Ab.K
open Go Go.Ab
theorem impl_Heap_moved : prepF Go.Proofs.Try.prog F.impl_Heap_moved = some C.impl_Heap_moved := by kernel_rfl
theorem impl_turning_of : prepF Go.Proofs.Try.prog F.impl_turning_of = some C.impl_turning_of := by kernel_rfl
theorem impl_turning_of_1 : prepF Go.Proofs.Try.prog F.impl_turning_of_1 = some C.impl_turning_of_1 := by kernel_rfl
end Go.Ab.K

/- The abstract code of some functions (written by a program of mine from the translation, by way of prepF). -/
namespace Go.Ab.C
open Go.Ab
def impl_orders : AFn :=
  ⟨0, 8, [.tmp 0],
    .seq (.ops [(none, .mv 0 (.c .nil))])
    (.seq (.ops [(none, .build 1 [(.I 0), (.I 0), (.I 0)] [(0, 1, (.c (.I 0))), (1, 1, (.c (.I 1))), (2, 1, (.c (.I 2)))]),
        (none, .build 2 [(.I 0), (.I 0), (.I 0)] [(0, 1, (.c (.I 0))), (1, 1, (.c (.I 2))), (2, 1, (.c (.I 1)))]),
        (none, .build 3 [(.I 0), (.I 0), (.I 0)] [(0, 1, (.c (.I 1))), (1, 1, (.c (.I 0))), (2, 1, (.c (.I 2)))]),
        (none, .build 4 [(.I 0), (.I 0), (.I 0)] [(0, 1, (.c (.I 1))), (1, 1, (.c (.I 2))), (2, 1, (.c (.I 0)))]),
        (none, .build 5 [(.I 0), (.I 0), (.I 0)] [(0, 1, (.c (.I 2))), (1, 1, (.c (.I 0))), (2, 1, (.c (.I 1)))]),
        (none, .build 6 [(.I 0), (.I 0), (.I 0)] [(0, 1, (.c (.I 2))), (1, 1, (.c (.I 1))), (2, 1, (.c (.I 0)))]),
        (none, .buildSl 7 6 3 [(.I 0), (.I 0), (.I 0), (.I 0), (.I 0), (.I 0), (.I 0), (.I 0), (.I 0), (.I 0), (.I 0), (.I 0), (.I 0), (.I 0), (.I 0), (.I 0), (.I 0), (.I 0)] [(0, 3, (.t 1)), (3, 3, (.t 2)), (6, 3, (.t 3)), (9, 3, (.t 4)), (12, 3, (.t 5)), (15, 3, (.t 6))]),
        (none, .mv 0 (.t 7))])
     (.ret))⟩
def impl_turnings : AFn :=
  ⟨0, 66, [.tmp 0],
    .seq (.ops [(none, .mv 0 (.c .nil))])
    (.seq (.ops [(none, .buildSl 9 0 6 [] []),
        (none, .mv 1 (.t 9))])
     (.seq (.seq (.ops [(none, .call (some 10) F.impl_orders []),
          (none, .len 11 (.t 10)),
          (none, .mv 12 (.c (.I 0)))])
       (.block 0 (.loop (.seq (.ops [(none, .bin 13 .lss (.t 12) (.t 11))])
          (.seq (.cond (.t 13) (.skip)
            (.exit 0))
           (.seq (.block 1 (.seq (.ops [(none, .idxS 14 3 (.t 10) (.t 12)),
                 (none, .loadN 15 3 (.t 14)),
                 (none, .alloc 3 [(.I 0), (.I 0), (.I 0)]),
                 (none, .store 3 (.t 3) (.t 15))])
              (.seq (.ops [(none, .mv 4 (.c (.I 0)))])
               (.seq (.seq (.ops [(none, .mv 16 (.c (.I 0)))])
                 (.block 2 (.loop (.seq (.ops [(none, .bin 17 .lss (.t 16) (.c (.I 3)))])
                    (.seq (.cond (.t 17) (.skip)
                      (.exit 2))
                     (.seq (.block 3 (.seq (.ops [(none, .mv 18 (.t 16)),
                           (none, .mv 5 (.t 18))])
                        (.seq (.ops [(none, .mv 19 (.t 5)),
                            (none, .mv 20 (.c (.I 0)))])
                         (.block 4 (.loop (.seq (.ops [(none, .bin 21 .lss (.t 20) (.t 19))])
                            (.seq (.cond (.t 21) (.skip)
                              (.exit 4))
                             (.seq (.block 5 (.seq (.ops [(none, .mv 22 (.t 20)),
                                   (none, .mv 6 (.t 22))])
                                (.seq (.draw [⟨(none, .mv 23 (.t 6)), [], []⟩,
                                    ⟨(none, .idxA 24 3 1 (.t 3) (.t 23)), [], []⟩,
                                    ⟨(none, .load1 25 (.t 24)), [], []⟩,
                                    ⟨(none, .mv 26 (.t 5)), [], []⟩,
                                    ⟨(none, .idxA 27 3 1 (.t 3) (.t 26)), [], []⟩,
                                    ⟨(none, .load1 28 (.t 27)), [], []⟩,
                                    ⟨(none, .bin 29 .gtr (.t 25) (.t 28)), [], []⟩])
                                 (.cond (.t 29) (.ops [(none, .mv 30 (.t 4)),
                                     (none, .bin 31 .add (.t 30) (.c (.I 1))),
                                     (none, .mv 4 (.t 31))])
                                  (.skip)))))
                              (.ops [(none, .bin 32 .add (.t 20) (.c (.I 1))),
                                 (none, .mv 20 (.t 32))])))))))))
                      (.ops [(none, .bin 33 .add (.t 16) (.c (.I 1))),
                         (none, .mv 16 (.t 33))])))))))
                (.seq (.ops [(none, .mv 34 (.c (.I 0)))])
                 (.block 6 (.loop (.seq (.ops [(none, .bin 35 .lss (.t 34) (.c (.I 8)))])
                    (.seq (.cond (.t 35) (.skip)
                      (.exit 6))
                     (.seq (.block 7 (.seq (.ops [(none, .mv 36 (.t 34)),
                           (none, .mv 7 (.t 36))])
                        (.seq (.ops [(none, .mv 37 (.t 7)),
                            (none, .bin 38 .shr (.t 37) (.c (.U 2))),
                            (none, .mv 39 (.t 7)),
                            (none, .bin 40 .shr (.t 39) (.c (.U 1))),
                            (none, .bin 41 .and (.t 40) (.c (.I 1))),
                            (none, .mv 42 (.t 7)),
                            (none, .bin 43 .and (.t 42) (.c (.I 1))),
                            (none, .build 44 [(.I 0), (.I 0), (.I 0)] [(0, 1, (.t 38)), (1, 1, (.t 41)), (2, 1, (.t 43))]),
                            (none, .alloc 8 [(.I 0), (.I 0), (.I 0)]),
                            (none, .store 3 (.t 8) (.t 44))])
                         (.seq (.ops [(none, .mv 45 (.t 4)),
                             (none, .idxA 46 3 1 (.t 8) (.c (.I 0))),
                             (none, .load1 47 (.t 46)),
                             (none, .bin 48 .add (.t 45) (.t 47)),
                             (none, .idxA 49 3 1 (.t 8) (.c (.I 1))),
                             (none, .load1 50 (.t 49)),
                             (none, .bin 51 .add (.t 48) (.t 50)),
                             (none, .idxA 52 3 1 (.t 8) (.c (.I 2))),
                             (none, .load1 53 (.t 52)),
                             (none, .bin 54 .add (.t 51) (.t 53)),
                             (none, .bin 55 .rem (.t 54) (.c (.I 2))),
                             (none, .bin 56 .eql (.t 55) (.c (.I 0)))])
                          (.cond (.t 56) (.ops [(none, .mv 57 (.t 1)),
                              (none, .loadN 58 3 (.t 3)),
                              (none, .loadN 59 3 (.t 8)),
                              (none, .build 60 [(.I 0), (.I 0), (.I 0), (.I 0), (.I 0), (.I 0)] [(0, 3, (.t 58)), (3, 3, (.t 59))]),
                              (none, .buildSl 61 1 6 [(.I 0), (.I 0), (.I 0), (.I 0), (.I 0), (.I 0)] [(0, 6, (.t 60))]),
                              (none, .append 62 6 48 (.t 57) (.t 61)),
                              (none, .mv 1 (.t 62))])
                           (.skip))))))
                      (.ops [(none, .bin 63 .add (.t 34) (.c (.I 1))),
                         (none, .mv 34 (.t 63))])))))))))))
            (.ops [(none, .bin 64 .add (.t 12) (.c (.I 1))),
               (none, .mv 12 (.t 64))])))))))
      (.seq (.ops [(none, .mv 65 (.t 1)),
          (none, .mv 0 (.t 65))])
       (.ret))))⟩
end Go.Ab.C

/- That the program has this code. -/
namespace Go.Ab.K
open Go Go.Ab
theorem impl_orders : prepF Go.Proofs.Try.prog F.impl_orders = some C.impl_orders := by kernel_rfl
theorem impl_turnings : prepF Go.Proofs.Try.prog F.impl_turnings = some C.impl_turnings := by kernel_rfl
end Go.Ab.K

/- Contracts: the program's turns. -/
namespace Go.Ab
open Go
set_option linter.unusedSimpArgs false
set_option linter.unusedVariables false

def ordersL : List Cell := [⟨0, 1, 2⟩, ⟨0, 2, 1⟩, ⟨1, 0, 2⟩, ⟨1, 2, 0⟩, ⟨2, 0, 1⟩, ⟨2, 1, 0⟩]
theorem g_orders {M : Mem} : CallsTo PG F.impl_orders [] M (.ref M.length 0 6) (M ++ [some (.row (triL ordersL) true 3)]) := by
  refine calls_run K.impl_orders rfl ?_
  simp (disch := omega) only [C.impl_orders, splice, ↓SXd, SXu, slBounds, ↓sop, ↓aop, ↓reduceIte, LV.cells, AOp.dst, LV.I, LV.B, LV.U, LV.S, LV.nil, Nat.reduceEqDiff, Nat.reduceAdd, Nat.reduceMul, Nat.reduceSub, Nat.reduceLeDiff, Nat.reduceBEq, Nat.reduceDiv, Nat.reduceMod, Int.reduceToNat, Int.reduceLT, Int.reduceLE, Int.reduceAdd, Int.reduceSub, Int.reduceMul, Int.reduceEq, Int.reduceNeg, reduceCtorEq, resV, resAll, ARes.ev, LV.flat, ite_true, ite_false, exists_eq_left', exists_eq_left, keyOf, implies_true, fillC, capOf]
  exact cmp_keep1 (j := 0) (cs := triL ordersL) rfl (triL_lo _) (by simp [rn, rn0, rn1, keepR_n])

/-- The attempt at which an order's turns begin. -/
def nO (o : Nat) : Nat := if o = 0 then 8 else if o = 1 then 16 else if o = 2 then 24 else if o = 3 then 40 else if o = 4 then 48 else if o = 5 then 56 else 72
theorem orders_at {o : Nat} (ho : o < 6) : (∃ a b : Nat, a < 3 ∧ b < 3 ∧ a ≠ b ∧ ordersL.getD o default = ⟨a, b, 3 - a - b⟩ ∧ nO o = (a * 3 + b) * 8) ∧ turnsU (nO o + 8) = turnsU (nO (o + 1)) := by
  rcases (show o = 0 ∨ o = 1 ∨ o = 2 ∨ o = 3 ∨ o = 4 ∨ o = 5 by omega) with rfl | rfl | rfl | rfl | rfl | rfl
  · exact ⟨⟨0, 1, by decide, by decide, by decide, rfl, rfl⟩, by decide +kernel⟩
  · exact ⟨⟨0, 2, by decide, by decide, by decide, rfl, rfl⟩, by decide +kernel⟩
  · exact ⟨⟨1, 0, by decide, by decide, by decide, rfl, rfl⟩, by decide +kernel⟩
  · exact ⟨⟨1, 2, by decide, by decide, by decide, rfl, rfl⟩, by decide +kernel⟩
  · exact ⟨⟨2, 0, by decide, by decide, by decide, rfl, rfl⟩, by decide +kernel⟩
  · exact ⟨⟨2, 1, by decide, by decide, by decide, rfl, rfl⟩, by decide +kernel⟩
theorem sh_div {f : Nat} (hf : f < 8) : (f : Int).fdiv (2 ^ min 2 64) = ((f / 4 : Nat) : Int) := by
  rcases (show f = 0 ∨ f = 1 ∨ f = 2 ∨ f = 3 ∨ f = 4 ∨ f = 5 ∨ f = 6 ∨ f = 7 by omega) with rfl | rfl | rfl | rfl | rfl | rfl | rfl | rfl <;> decide +kernel

theorem g_turnings {M : Mem} : CallsTo PG F.impl_turnings [] M (.ref M.length 0 turns.length) (M ++ [some (.row (sixL turns) true 6)]) := by
  refine calls_run K.impl_turnings rfl ?_
  simp (disch := omega) only [C.impl_turnings, ↓SXd, SXu, slBounds, ↓sop, ↓aop, ↓reduceIte, LV.cells, AOp.dst, LV.I, LV.B, LV.U, LV.S, LV.nil, Nat.reduceEqDiff, Nat.reduceAdd, Nat.reduceMul, Nat.reduceSub, Nat.reduceLeDiff, Nat.reduceBEq, Nat.reduceDiv, Nat.reduceMod, Int.reduceToNat, Int.reduceLT, Int.reduceLE, Int.reduceAdd, Int.reduceSub, Int.reduceMul, Int.reduceEq, Int.reduceNeg, reduceCtorEq, resV, resAll, ARes.ev, LV.flat, ite_true, ite_false, exists_eq_left', exists_eq_left, keyOf, implies_true, fillC, capOf]
  refine callK_of (g_orders) ?_
  simp (disch := omega) only [↓SXd, SXu, slBounds, ↓sop, ↓aop, ↓reduceIte, LV.cells, AOp.dst, LV.I, LV.B, LV.U, LV.S, LV.nil, Nat.reduceEqDiff, Nat.reduceAdd, Nat.reduceMul, Nat.reduceSub, Nat.reduceLeDiff, Nat.reduceBEq, Nat.reduceDiv, Nat.reduceMod, Int.reduceToNat, Int.reduceLT, Int.reduceLE, Int.reduceAdd, Int.reduceSub, Int.reduceMul, Int.reduceEq, Int.reduceNeg, reduceCtorEq, resV, resAll, ARes.ev, LV.flat, ite_true, ite_false, exists_eq_left', exists_eq_left, keyOf, implies_true, fillC, capOf]
  refine ev_loop (fun m fr M' => ∃ o u : Nat, o + m = 6 ∧ Pre M M' ∧ M.length ≤ u ∧ u ≠ M.length + 1 ∧ Live M' (M.length + 1) (.row (triL ordersL) true 3) ∧ Live M' u (.row (sixL (turnsU (nO o))) true 6) ∧ fr 1 = .ref u 0 (turnsU (nO o)).length ∧ fr 10 = .ref (M.length + 1) 0 6 ∧ fr 11 = .I 6 ∧ fr 12 = .I o) 6
    ⟨0, M.length, rfl, Pre.app _ _, by omega, by omega, Live.newj rfl, by rw [show turnsU (nO 0) = [] by decide +kernel]; exact Live.new, by rw [show turnsU (nO 0) = [] by decide +kernel]; rfl, rfl, rfl, rfl⟩ ?_
  rintro m fr M' ⟨o, u, ho, hpre, hu, hu1, bo, bu, f1, f10, f11, f12⟩
  simp (disch := omega) only [f1, f10, f11, f12, ↓SXd, SXu, slBounds, ↓sop, ↓aop, ↓reduceIte, LV.cells, AOp.dst, LV.I, LV.B, LV.U, LV.S, LV.nil, Nat.reduceEqDiff, Nat.reduceAdd, Nat.reduceMul, Nat.reduceSub, Nat.reduceLeDiff, Nat.reduceBEq, Nat.reduceDiv, Nat.reduceMod, Int.reduceToNat, Int.reduceLT, Int.reduceLE, Int.reduceAdd, Int.reduceSub, Int.reduceMul, Int.reduceEq, Int.reduceNeg, reduceCtorEq, resV, resAll, ARes.ev, LV.flat, ite_true, ite_false, exists_eq_left', exists_eq_left, keyOf, implies_true, fillC, capOf]
  refine condC_dec (fun hlt => ?_) (fun hlt => ?_)
  rotate_left
  · simp (disch := omega) only [f1, f10, f11, f12, ↓SXd, SXu, slBounds, ↓sop, ↓aop, ↓reduceIte, LV.cells, AOp.dst, LV.I, LV.B, LV.U, LV.S, LV.nil, Nat.reduceEqDiff, Nat.reduceAdd, Nat.reduceMul, Nat.reduceSub, Nat.reduceLeDiff, Nat.reduceBEq, Nat.reduceDiv, Nat.reduceMod, Int.reduceToNat, Int.reduceLT, Int.reduceLE, Int.reduceAdd, Int.reduceSub, Int.reduceMul, Int.reduceEq, Int.reduceNeg, reduceCtorEq, resV, resAll, ARes.ev, LV.flat, ite_true, ite_false, exists_eq_left', exists_eq_left, keyOf, implies_true, fillC, capOf]
    have : o = 6 := by omega
    subst this
    have e : turnsU (nO 6) = turns := rfl
    rw [e] at bu f1 ⊢
    exact cmp_keepL hpre hu bu (sixL_lo _) (by simp [rn, rn0, rn1])
  · have ho6 : o < 6 := by omega
    obtain ⟨⟨a, b, ha3, hb3, hab, hc, hn⟩, hnx⟩ := orders_at ho6
    have hg := bo.tri0 (k := o) ho6
    rw [hc] at hg
    have hl := bo.lt
    have hlu := bu.lt
    simp (disch := omega) only [f1, f10, f11, f12, hg, splice, Cell.row, ↓SXd, SXu, slBounds, ↓sop, ↓aop, ↓reduceIte, LV.cells, AOp.dst, LV.I, LV.B, LV.U, LV.S, LV.nil, Nat.reduceEqDiff, Nat.reduceAdd, Nat.reduceMul, Nat.reduceSub, Nat.reduceLeDiff, Nat.reduceBEq, Nat.reduceDiv, Nat.reduceMod, Int.reduceToNat, Int.reduceLT, Int.reduceLE, Int.reduceAdd, Int.reduceSub, Int.reduceMul, Int.reduceEq, Int.reduceNeg, reduceCtorEq, resV, resAll, ARes.ev, LV.flat, ite_true, ite_false, exists_eq_left', exists_eq_left, keyOf, implies_true, fillC, capOf]
    have e3 : Live (M' ++ [some (.row (Cell.row ⟨a, b, 3 - a - b⟩) true 0)]) M'.length (.row (Cell.row ⟨a, b, 3 - a - b⟩) true 0) := Live.new
    have hp1 : Pre M' (M' ++ [some (.row (Cell.row ⟨a, b, 3 - a - b⟩) true 0)]) := Pre.app _ _
    refine ev_loop (fun m2 fr N => ∃ i : Nat, i + m2 = 3 ∧ N = M' ++ [some (.row (Cell.row ⟨a, b, 3 - a - b⟩) true 0)] ∧ fr 1 = .ref u 0 (turnsU (nO o)).length ∧ fr 10 = .ref (M.length + 1) 0 6 ∧ fr 11 = .I 6 ∧ fr 12 = .I o ∧ fr 3 = .ptr M'.length 0 ∧ fr 4 = .I (oddK ⟨a, b, 3 - a - b⟩ i 0) ∧ fr 16 = .I i) 3
      ⟨0, rfl, rfl, f1, f10, f11, f12, rfl, rfl, rfl⟩ ?_
    clear f1 f10 f11 f12
    rintro m2 fr N ⟨i, hi, rfl, f1, f10, f11, f12, f3, f4, f16⟩
    simp (disch := omega) only [f1, f10, f11, f12, f3, f4, f16, ↓SXd, SXu, slBounds, ↓sop, ↓aop, ↓reduceIte, LV.cells, AOp.dst, LV.I, LV.B, LV.U, LV.S, LV.nil, Nat.reduceEqDiff, Nat.reduceAdd, Nat.reduceMul, Nat.reduceSub, Nat.reduceLeDiff, Nat.reduceBEq, Nat.reduceDiv, Nat.reduceMod, Int.reduceToNat, Int.reduceLT, Int.reduceLE, Int.reduceAdd, Int.reduceSub, Int.reduceMul, Int.reduceEq, Int.reduceNeg, reduceCtorEq, resV, resAll, ARes.ev, LV.flat, ite_true, ite_false, exists_eq_left', exists_eq_left, keyOf, implies_true, fillC, capOf]
    refine condC_dec (fun hlt2 => ?_) (fun hlt2 => ?_)
    · simp (disch := omega) only [f1, f10, f11, f12, f3, f4, f16, ↓SXd, SXu, slBounds, ↓sop, ↓aop, ↓reduceIte, LV.cells, AOp.dst, LV.I, LV.B, LV.U, LV.S, LV.nil, Nat.reduceEqDiff, Nat.reduceAdd, Nat.reduceMul, Nat.reduceSub, Nat.reduceLeDiff, Nat.reduceBEq, Nat.reduceDiv, Nat.reduceMod, Int.reduceToNat, Int.reduceLT, Int.reduceLE, Int.reduceAdd, Int.reduceSub, Int.reduceMul, Int.reduceEq, Int.reduceNeg, reduceCtorEq, resV, resAll, ARes.ev, LV.flat, ite_true, ite_false, exists_eq_left', exists_eq_left, keyOf, implies_true, fillC, capOf]
      refine ev_loop (fun m3 fr N => ∃ k : Nat, k + m3 = i ∧ N = M' ++ [some (.row (Cell.row ⟨a, b, 3 - a - b⟩) true 0)] ∧ fr 1 = .ref u 0 (turnsU (nO o)).length ∧ fr 10 = .ref (M.length + 1) 0 6 ∧ fr 11 = .I 6 ∧ fr 12 = .I o ∧ fr 3 = .ptr M'.length 0 ∧ fr 4 = .I (oddK ⟨a, b, 3 - a - b⟩ i k) ∧ fr 16 = .I i ∧ fr 5 = .I i ∧ fr 19 = .I i ∧ fr 20 = .I k) i
        ⟨0, by omega, rfl, f1, f10, f11, f12, f3, f4, f16, rfl, rfl, rfl⟩ ?_
      clear f1 f10 f11 f12 f3 f4 f16
      rintro m3 fr N ⟨k, hk, rfl, f1, f10, f11, f12, f3, f4, f16, f5, f19, f20⟩
      simp (disch := omega) only [f1, f10, f11, f12, f3, f4, f16, f5, f19, f20, ↓SXd, SXu, slBounds, ↓sop, ↓aop, ↓reduceIte, LV.cells, AOp.dst, LV.I, LV.B, LV.U, LV.S, LV.nil, Nat.reduceEqDiff, Nat.reduceAdd, Nat.reduceMul, Nat.reduceSub, Nat.reduceLeDiff, Nat.reduceBEq, Nat.reduceDiv, Nat.reduceMod, Int.reduceToNat, Int.reduceLT, Int.reduceLE, Int.reduceAdd, Int.reduceSub, Int.reduceMul, Int.reduceEq, Int.reduceNeg, reduceCtorEq, resV, resAll, ARes.ev, LV.flat, ite_true, ite_false, exists_eq_left', exists_eq_left, keyOf, implies_true, fillC, capOf]
      refine condC_dec (fun hlt3 => ?_) (fun hlt3 => ?_)
      · obtain ⟨hb1, hb2⟩ := oddK_le (c := ⟨a, b, 3 - a - b⟩) (i := i) (k := k)
        have q1 := e3.cell (o := k)
        have q2 := e3.cell (o := i)
        rw [Cell.row_at (by omega)] at q1 q2
        simp (disch := omega) only [f1, f10, f11, f12, f3, f4, f16, f5, f19, f20, q1, q2, Nat.mul_one, ↓SXd, SXu, slBounds, ↓sop, ↓aop, ↓reduceIte, LV.cells, AOp.dst, LV.I, LV.B, LV.U, LV.S, LV.nil, Nat.reduceEqDiff, Nat.reduceAdd, Nat.reduceMul, Nat.reduceSub, Nat.reduceLeDiff, Nat.reduceBEq, Nat.reduceDiv, Nat.reduceMod, Int.reduceToNat, Int.reduceLT, Int.reduceLE, Int.reduceAdd, Int.reduceSub, Int.reduceMul, Int.reduceEq, Int.reduceNeg, reduceCtorEq, resV, resAll, ARes.ev, LV.flat, ite_true, ite_false, exists_eq_left', exists_eq_left, keyOf, implies_true, fillC, capOf]
        have hik : (i = 1 ∧ k = 0) ∨ (i = 2 ∧ k = 0) ∨ (i = 2 ∧ k = 1) := by omega
        refine condC_dec (fun hgt => ?_) (fun hgt => ?_)
        · simp (disch := omega) only [f1, f10, f11, f12, f3, f4, f16, f5, f19, f20, ↓SXd, SXu, slBounds, ↓sop, ↓aop, ↓reduceIte, LV.cells, AOp.dst, LV.I, LV.B, LV.U, LV.S, LV.nil, Nat.reduceEqDiff, Nat.reduceAdd, Nat.reduceMul, Nat.reduceSub, Nat.reduceLeDiff, Nat.reduceBEq, Nat.reduceDiv, Nat.reduceMod, Int.reduceToNat, Int.reduceLT, Int.reduceLE, Int.reduceAdd, Int.reduceSub, Int.reduceMul, Int.reduceEq, Int.reduceNeg, reduceCtorEq, resV, resAll, ARes.ev, LV.flat, ite_true, ite_false, exists_eq_left', exists_eq_left, keyOf, implies_true, fillC, capOf]
          refine ⟨m3 - 1, by omega, k + 1, by omega, rfl, f1, f10, f11, f12, f3, eqI ?_, f16, f5, f19, eqI (natI _)⟩
          rcases hik with ⟨rfl, rfl⟩ | ⟨rfl, rfl⟩ | ⟨rfl, rfl⟩ <;> simp [oddK, Cell.at] at hgt ⊢ <;> simp [hgt] <;> omega
        · simp (disch := omega) only [f1, f10, f11, f12, f3, f4, f16, f5, f19, f20, ↓SXd, SXu, slBounds, ↓sop, ↓aop, ↓reduceIte, LV.cells, AOp.dst, LV.I, LV.B, LV.U, LV.S, LV.nil, Nat.reduceEqDiff, Nat.reduceAdd, Nat.reduceMul, Nat.reduceSub, Nat.reduceLeDiff, Nat.reduceBEq, Nat.reduceDiv, Nat.reduceMod, Int.reduceToNat, Int.reduceLT, Int.reduceLE, Int.reduceAdd, Int.reduceSub, Int.reduceMul, Int.reduceEq, Int.reduceNeg, reduceCtorEq, resV, resAll, ARes.ev, LV.flat, ite_true, ite_false, exists_eq_left', exists_eq_left, keyOf, implies_true, fillC, capOf]
          refine ⟨m3 - 1, by omega, k + 1, by omega, rfl, f1, f10, f11, f12, f3, f4.trans (eqI ?_), f16, f5, f19, eqI (natI _)⟩
          rcases hik with ⟨rfl, rfl⟩ | ⟨rfl, rfl⟩ | ⟨rfl, rfl⟩ <;> simp [oddK, Cell.at] at hgt ⊢ <;> omega
      · simp (disch := omega) only [f1, f10, f11, f12, f3, f4, f16, f5, f19, f20, ↓SXd, SXu, slBounds, ↓sop, ↓aop, ↓reduceIte, LV.cells, AOp.dst, LV.I, LV.B, LV.U, LV.S, LV.nil, Nat.reduceEqDiff, Nat.reduceAdd, Nat.reduceMul, Nat.reduceSub, Nat.reduceLeDiff, Nat.reduceBEq, Nat.reduceDiv, Nat.reduceMod, Int.reduceToNat, Int.reduceLT, Int.reduceLE, Int.reduceAdd, Int.reduceSub, Int.reduceMul, Int.reduceEq, Int.reduceNeg, reduceCtorEq, resV, resAll, ARes.ev, LV.flat, ite_true, ite_false, exists_eq_left', exists_eq_left, keyOf, implies_true, fillC, capOf]
        have : k = i := by omega
        subst this
        refine ⟨m2 - 1, by omega, k + 1, by omega, rfl, f1, f10, f11, f12, f3, f4.trans (eqI ?_), eqI (natI _)⟩
        rcases (show k = 0 ∨ k = 1 ∨ k = 2 by omega) with rfl | rfl | rfl <;> simp [oddK]
    · simp (disch := omega) only [f1, f10, f11, f12, f3, f4, f16, ↓SXd, SXu, slBounds, ↓sop, ↓aop, ↓reduceIte, LV.cells, AOp.dst, LV.I, LV.B, LV.U, LV.S, LV.nil, Nat.reduceEqDiff, Nat.reduceAdd, Nat.reduceMul, Nat.reduceSub, Nat.reduceLeDiff, Nat.reduceBEq, Nat.reduceDiv, Nat.reduceMod, Int.reduceToNat, Int.reduceLT, Int.reduceLE, Int.reduceAdd, Int.reduceSub, Int.reduceMul, Int.reduceEq, Int.reduceNeg, reduceCtorEq, resV, resAll, ARes.ev, LV.flat, ite_true, ite_false, exists_eq_left', exists_eq_left, keyOf, implies_true, fillC, capOf]
      have : i = 3 := by omega
      subst this
      have hod : oddOf ⟨a, b, 3 - a - b⟩ = oddK ⟨a, b, 3 - a - b⟩ 3 0 % 2 := by simp [oddK, oddOf]
      obtain ⟨hb1, hb2⟩ := oddK_le (c := ⟨a, b, 3 - a - b⟩) (i := 3) (k := 0)
      generalize oddK ⟨a, b, 3 - a - b⟩ 3 0 = O at hod hb1 hb2 f4
      refine ev_loop (fun m4 fr N => ∃ f u : Nat, f + m4 = 8 ∧ Pre M N ∧ M.length ≤ u ∧ u ≠ M.length + 1 ∧ u ≠ M'.length ∧ M'.length < N.length ∧ Live N (M.length + 1) (.row (triL ordersL) true 3) ∧ Live N M'.length (.row (Cell.row ⟨a, b, 3 - a - b⟩) true 0) ∧ Live N u (.row (sixL (turnsU (nO o + f))) true 6) ∧ fr 1 = .ref u 0 (turnsU (nO o + f)).length ∧ fr 10 = .ref (M.length + 1) 0 6 ∧ fr 11 = .I 6 ∧ fr 12 = .I o ∧ fr 3 = .ptr M'.length 0 ∧ fr 4 = .I O ∧ fr 34 = .I f) 8
        ⟨0, u, rfl, hpre.trans hp1, hu, hu1, by omega, e3.lt, bo.app, e3, bu.app, f1, f10, f11, f12, f3, f4, rfl⟩ ?_
      clear f1 f10 f11 f12 f3 f4 f16 e3 hp1 bo bu hg hlu hl hpre
      rintro m4 fr N ⟨f, u, hf, hpre, hu, hu1, hu2, hNM, bo, e3, bu, f1, f10, f11, f12, f3, f4, f34⟩
      simp (disch := omega) only [f1, f10, f11, f12, f3, f4, f34, ↓SXd, SXu, slBounds, ↓sop, ↓aop, ↓reduceIte, LV.cells, AOp.dst, LV.I, LV.B, LV.U, LV.S, LV.nil, Nat.reduceEqDiff, Nat.reduceAdd, Nat.reduceMul, Nat.reduceSub, Nat.reduceLeDiff, Nat.reduceBEq, Nat.reduceDiv, Nat.reduceMod, Int.reduceToNat, Int.reduceLT, Int.reduceLE, Int.reduceAdd, Int.reduceSub, Int.reduceMul, Int.reduceEq, Int.reduceNeg, reduceCtorEq, resV, resAll, ARes.ev, LV.flat, ite_true, ite_false, exists_eq_left', exists_eq_left, keyOf, implies_true, fillC, capOf]
      refine condC_dec (fun hlt3 => ?_) (fun hlt3 => ?_)
      · obtain ⟨h1, h2, h3⟩ := sh_and (f := f) (by omega)
        have h4 := sh_div (f := f) (by omega)
        simp (disch := omega) only [f1, f10, f11, f12, f3, f4, f34, splice, h2, h3, h4, ↓SXd, SXu, slBounds, ↓sop, ↓aop, ↓reduceIte, LV.cells, AOp.dst, LV.I, LV.B, LV.U, LV.S, LV.nil, Nat.reduceEqDiff, Nat.reduceAdd, Nat.reduceMul, Nat.reduceSub, Nat.reduceLeDiff, Nat.reduceBEq, Nat.reduceDiv, Nat.reduceMod, Int.reduceToNat, Int.reduceLT, Int.reduceLE, Int.reduceAdd, Int.reduceSub, Int.reduceMul, Int.reduceEq, Int.reduceNeg, reduceCtorEq, resV, resAll, ARes.ev, LV.flat, ite_true, ite_false, exists_eq_left', exists_eq_left, keyOf, implies_true, fillC, capOf]
        have hta := turnAt_at (a := a) (b := b) (f := f) hb3 (by omega)
        have hus := turnsU_succ (n := nO o + f)
        rw [hn] at hus bu f1
        have hul := turnsU_len (n := (a * 3 + b) * 8 + f)
        have e8 := Live.new (M := N) (L := []) (b := .row [.I ((f / 4 : Nat) : Int), .I ((f / 2 % 2 : Nat) : Int), .I ((f % 2 : Nat) : Int)] true 0)
        have hp1 : Pre N (N ++ [some (.row [.I ((f / 4 : Nat) : Int), .I ((f / 2 % 2 : Nat) : Int), .I ((f % 2 : Nat) : Int)] true 0)]) := Pre.app _ _
        generalize N ++ [some (.row [.I ((f / 4 : Nat) : Int), .I ((f / 2 % 2 : Nat) : Int), .I ((f % 2 : Nat) : Int)] true 0)] = N1 at e8 hp1 ⊢
        have hN1 := hp1.1
        have c3 := e3.pre hp1
        have hlu := bu.lt
        refine condC_dec (fun hq => ?_) (fun hq => ?_)
        · rw [Int.tmod_eq_emod_of_nonneg (by omega)] at hq
          rw [if_pos ⟨hab, by rw [hod]; omega⟩] at hta
          rw [hta] at hus
          simp (disch := omega) only [f1, f10, f11, f12, f3, f4, f34, f1, e8.cells, c3.cells, Cell.row, splice, ↓SXd, SXu, slBounds, ↓sop, ↓aop, ↓reduceIte, LV.cells, AOp.dst, LV.I, LV.B, LV.U, LV.S, LV.nil, Nat.reduceEqDiff, Nat.reduceAdd, Nat.reduceMul, Nat.reduceSub, Nat.reduceLeDiff, Nat.reduceBEq, Nat.reduceDiv, Nat.reduceMod, Int.reduceToNat, Int.reduceLT, Int.reduceLE, Int.reduceAdd, Int.reduceSub, Int.reduceMul, Int.reduceEq, Int.reduceNeg, reduceCtorEq, resV, resAll, ARes.ev, LV.flat, ite_true, ite_false, exists_eq_left', exists_eq_left, keyOf, implies_true, fillC, capOf]
          refine appendK_1 (e := 6) (b := 48) (acc := sixL (turnsU ((a * 3 + b) * 8 + f))) (new := Turn.row ⟨⟨a, b, 3 - a - b⟩, ⟨((f / 4 : Nat) : Int), ((f / 2 % 2 : Nat) : Int), ((f % 2 : Nat) : Int)⟩⟩) (bu.pre hp1) (by rw [sixL_len]) rfl (by omega) (by omega) (by omega) fun N' l1 l2 l3 => ?_
          simp (disch := omega) only [f1, f10, f11, f12, f3, f4, f34, ↓SXd, SXu, slBounds, ↓sop, ↓aop, ↓reduceIte, LV.cells, AOp.dst, LV.I, LV.B, LV.U, LV.S, LV.nil, Nat.reduceEqDiff, Nat.reduceAdd, Nat.reduceMul, Nat.reduceSub, Nat.reduceLeDiff, Nat.reduceBEq, Nat.reduceDiv, Nat.reduceMod, Int.reduceToNat, Int.reduceLT, Int.reduceLE, Int.reduceAdd, Int.reduceSub, Int.reduceMul, Int.reduceEq, Int.reduceNeg, reduceCtorEq, resV, resAll, ARes.ev, LV.flat, ite_true, ite_false, exists_eq_left', exists_eq_left, keyOf, implies_true, fillC, capOf]
          refine ⟨m4 - 1, by omega, f + 1, N1.length + 1, by omega, pre_step (hpre.trans hp1) hu l1 l3, by have := hpre.1; omega, by have := hpre.1; omega, by omega, by omega, live_step (bo.pre hp1) (by omega) l3, live_step c3 (by omega) l3, ?_, ?_, f10, f11, f12, f3, f4, eqI (natI _)⟩
          · rw [← Nat.add_assoc, hn, hus, sixL_append]
            exact l2
          · rw [← Nat.add_assoc, hn, hus, List.length_append]; rfl
        · rw [Int.tmod_eq_emod_of_nonneg (by omega)] at hq
          rw [if_neg (fun h => hq (by have := h.2; rw [hod] at this; omega))] at hta
          rw [hta] at hus
          simp only [Option.toList, List.append_nil] at hus
          simp (disch := omega) only [f1, f10, f11, f12, f3, f4, f34, ↓SXd, SXu, slBounds, ↓sop, ↓aop, ↓reduceIte, LV.cells, AOp.dst, LV.I, LV.B, LV.U, LV.S, LV.nil, Nat.reduceEqDiff, Nat.reduceAdd, Nat.reduceMul, Nat.reduceSub, Nat.reduceLeDiff, Nat.reduceBEq, Nat.reduceDiv, Nat.reduceMod, Int.reduceToNat, Int.reduceLT, Int.reduceLE, Int.reduceAdd, Int.reduceSub, Int.reduceMul, Int.reduceEq, Int.reduceNeg, reduceCtorEq, resV, resAll, ARes.ev, LV.flat, ite_true, ite_false, exists_eq_left', exists_eq_left, keyOf, implies_true, fillC, capOf]
          refine ⟨m4 - 1, by omega, f + 1, u, by omega, hpre.trans hp1, hu, hu1, hu2, by omega, bo.pre hp1, c3, ?_, ?_, f10, f11, f12, f3, f4, eqI (natI _)⟩
          · rw [← Nat.add_assoc, hn, hus]; exact bu.pre hp1
          · rw [← Nat.add_assoc, hn, hus]; exact f1
      · simp (disch := omega) only [f1, f10, f11, f12, f3, f4, f34, ↓SXd, SXu, slBounds, ↓sop, ↓aop, ↓reduceIte, LV.cells, AOp.dst, LV.I, LV.B, LV.U, LV.S, LV.nil, Nat.reduceEqDiff, Nat.reduceAdd, Nat.reduceMul, Nat.reduceSub, Nat.reduceLeDiff, Nat.reduceBEq, Nat.reduceDiv, Nat.reduceMod, Int.reduceToNat, Int.reduceLT, Int.reduceLE, Int.reduceAdd, Int.reduceSub, Int.reduceMul, Int.reduceEq, Int.reduceNeg, reduceCtorEq, resV, resAll, ARes.ev, LV.flat, ite_true, ite_false, exists_eq_left', exists_eq_left, keyOf, implies_true, fillC, capOf]
        have : f = 8 := by omega
        subst this
        rw [hnx] at bu f1
        exact ⟨m - 1, by omega, o + 1, u, by omega, hpre, hu, hu1, bo, bu, f1, f10, f11, eqI (natI _)⟩
end Go.Ab

/- Contracts: the program's turned heaps. -/
namespace Go.Ab
open Go
set_option linter.unusedSimpArgs false
set_option linter.unusedVariables false

theorem g_moved {x y z X Y Z : Int} {t o : Nat} {cs : List Cell} {g : Cell → Cell} {f : FuncId} {caps : List (Nat × Nat)} {M : Mem} (h : Tri M t o cs) (hn : cs.length ≤ 1000000) (hS : Sides X Y Z) (hin : ∀ c ∈ cs, (g c).inBox X Y Z)
    (hf : ∀ M', Pre M M' → ∀ c ∈ cs, CallsTo PG f ([.agg [.I c.a, .I c.b, .I c.c]] ++ caps.map fun p => .ptr p.1 p.2) M' (.agg [.I (g c).a, .I (g c).b, .I (g c).c]) M') :
    CallsTo PG F.impl_Heap_moved [.agg [.I x, .I y, .I z, .ref t o cs.length], .agg [.I X, .I Y, .I Z], .clo f caps] M (.agg [.I X, .I Y, .I Z, .ref M.length 0 (pick X Y Z fun d => decide (d ∈ cs.map g)).length])
      (M ++ [some (.row (triL (pick X Y Z fun d => decide (d ∈ cs.map g))) true 3)]) := by
  have ht := h.lt
  refine calls_run K.impl_Heap_moved rfl ?_
  simp (disch := omega) only [C.impl_Heap_moved, ↓SXd, SXu, slBounds, ↓sop, ↓aop, ↓reduceIte, LV.cells, AOp.dst, LV.I, LV.B, LV.U, LV.S, LV.nil, Nat.reduceEqDiff, Nat.reduceAdd, Nat.reduceMul, Nat.reduceSub, Nat.reduceLeDiff, Nat.reduceBEq, Nat.reduceDiv, Nat.reduceMod, Int.reduceToNat, Int.reduceLT, Int.reduceLE, Int.reduceAdd, Int.reduceSub, Int.reduceMul, Int.reduceEq, Int.reduceNeg, reduceCtorEq, resV, resAll, ARes.ev, LV.flat, ite_true, ite_false, exists_eq_left', exists_eq_left, keyOf, implies_true, fillC, capOf]
  have hLl : (cs.map g).length = cs.length := List.length_map ..
  have hLg : ∀ i, i < cs.length → (cs.map g).getD i default = g (cs.getD i default) := fun i hi => by simp [hi]
  generalize cs.map g = L at hLl hLg ⊢
  refine ev_loop (fun m fr M' => ∃ i : Nat, i + m = cs.length ∧ Pre M M' ∧ Live M' M.length (.row [.I x, .I y, .I z, .ref t o cs.length] true 0) ∧ Live M' (M.length + 1) (.row [.I X, .I Y, .I Z] true 0) ∧ Live M' (M.length + 2) (.row [.I 0, .I 0, .I 0, .nil] true 0) ∧
    fr 2 = .clo f caps ∧ fr 3 = .ptr M.length 0 ∧ fr 4 = .ptr (M.length + 1) 0 ∧ fr 6 = .ptr (M.length + 2) 0 ∧ fr 7 = .W (bs X Y Z fun d => decide (d ∈ L.take i)) ∧ fr 11 = .ref t o cs.length ∧ fr 12 = .I cs.length ∧ fr 13 = .I i) cs.length
    ⟨0, by omega, Pre.app _ _, Live.new, Live.newj rfl, Live.newj rfl, rfl, rfl, rfl, rfl, by rw [show (bs X Y Z fun d => decide (d ∈ L.take 0)) = 0#64 from (bs_zero hS).2 fun c _ => by simp]; rfl, rfl, rfl, rfl⟩ ?_
  rintro m fr M' ⟨i, hi, hpre, b3, b4, b6, f2, f3, f4, f6, f7, f11, f12, f13⟩
  simp (disch := omega) only [f2, f3, f4, f6, f7, f11, f12, f13, ↓SXd, SXu, slBounds, ↓sop, ↓aop, ↓reduceIte, LV.cells, AOp.dst, LV.I, LV.B, LV.U, LV.S, LV.nil, Nat.reduceEqDiff, Nat.reduceAdd, Nat.reduceMul, Nat.reduceSub, Nat.reduceLeDiff, Nat.reduceBEq, Nat.reduceDiv, Nat.reduceMod, Int.reduceToNat, Int.reduceLT, Int.reduceLE, Int.reduceAdd, Int.reduceSub, Int.reduceMul, Int.reduceEq, Int.reduceNeg, reduceCtorEq, resV, resAll, ARes.ev, LV.flat, ite_true, ite_false, exists_eq_left', exists_eq_left, keyOf, implies_true, fillC, capOf]
  refine condC_dec (fun hlt => ?_) (fun hlt => ?_)
  · have hil : i < cs.length := by omega
    have hg := Tri.get (h.pre hpre) hil
    have hmem := getD_mem' (d := default) hil
    have hLi := hLg i hil
    have htd := fun d => take_dec (cs := L) (k := i) (c := d) (by omega)
    have hgi := hin _ hmem
    have hfi := hf (M' ++ [some (.row [.I (cs.getD i default).a, .I (cs.getD i default).b, .I (cs.getD i default).c] true 0)]) (hpre.trans (Pre.app _ _)) _ hmem
    generalize cs.getD i default = c at hg hLi hmem hgi hfi
    have hix := (idx_in hS hgi).1
    have hl6 := b6.lt
    simp (disch := omega) only [f2, f3, f4, f6, f7, f11, f12, f13, hg, Cell.row, splice, b4.app.cells, List.getElem?_append_left, ↓SXd, SXu, slBounds, ↓sop, ↓aop, ↓reduceIte, LV.cells, AOp.dst, LV.I, LV.B, LV.U, LV.S, LV.nil, Nat.reduceEqDiff, Nat.reduceAdd, Nat.reduceMul, Nat.reduceSub, Nat.reduceLeDiff, Nat.reduceBEq, Nat.reduceDiv, Nat.reduceMod, Int.reduceToNat, Int.reduceLT, Int.reduceLE, Int.reduceAdd, Int.reduceSub, Int.reduceMul, Int.reduceEq, Int.reduceNeg, reduceCtorEq, resV, resAll, ARes.ev, LV.flat, ite_true, ite_false, exists_eq_left', exists_eq_left, keyOf, implies_true, fillC, capOf]
    refine callK_of hfi ?_
    simp (disch := omega) only [f2, f3, f4, f6, f7, f11, f12, f13, List.getElem?_append_left, ↓SXd, SXu, slBounds, ↓sop, ↓aop, ↓reduceIte, LV.cells, AOp.dst, LV.I, LV.B, LV.U, LV.S, LV.nil, Nat.reduceEqDiff, Nat.reduceAdd, Nat.reduceMul, Nat.reduceSub, Nat.reduceLeDiff, Nat.reduceBEq, Nat.reduceDiv, Nat.reduceMod, Int.reduceToNat, Int.reduceLT, Int.reduceLE, Int.reduceAdd, Int.reduceSub, Int.reduceMul, Int.reduceEq, Int.reduceNeg, reduceCtorEq, resV, resAll, ARes.ev, LV.flat, ite_true, ite_false, exists_eq_left', exists_eq_left, keyOf, implies_true, fillC, capOf]
    refine callK_of (g_index hS hgi) ?_
    simp (disch := omega) only [f2, f3, f4, f6, f7, f11, f12, f13, ↓SXd, SXu, slBounds, ↓sop, ↓aop, ↓reduceIte, LV.cells, AOp.dst, LV.I, LV.B, LV.U, LV.S, LV.nil, Nat.reduceEqDiff, Nat.reduceAdd, Nat.reduceMul, Nat.reduceSub, Nat.reduceLeDiff, Nat.reduceBEq, Nat.reduceDiv, Nat.reduceMod, Int.reduceToNat, Int.reduceLT, Int.reduceLE, Int.reduceAdd, Int.reduceSub, Int.reduceMul, Int.reduceEq, Int.reduceNeg, reduceCtorEq, resV, resAll, ARes.ev, LV.flat, ite_true, ite_false, exists_eq_left', exists_eq_left, keyOf, implies_true, fillC, capOf]
    rw [bs_one hS hgi, bs_or hS, show (bs X Y Z fun d => decide (d ∈ L.take i) || decide (d = g c)) = bs X Y Z fun d => decide (d ∈ L.take (i + 1)) from (bs_eq hS).2 fun d _ => by rw [← hLi]; exact htd d]
    exact ⟨m - 1, by omega, i + 1, by omega, hpre.app', b3.app, b4.app, b6.app, f2, f3, f4, f6, rfl, f11, f12, eqI (natI _)⟩
  · simp (disch := omega) only [f2, f3, f4, f6, f7, f11, f12, f13, b4.cells, ↓SXd, SXu, slBounds, ↓sop, ↓aop, ↓reduceIte, LV.cells, AOp.dst, LV.I, LV.B, LV.U, LV.S, LV.nil, Nat.reduceEqDiff, Nat.reduceAdd, Nat.reduceMul, Nat.reduceSub, Nat.reduceLeDiff, Nat.reduceBEq, Nat.reduceDiv, Nat.reduceMod, Int.reduceToNat, Int.reduceLT, Int.reduceLE, Int.reduceAdd, Int.reduceSub, Int.reduceMul, Int.reduceEq, Int.reduceNeg, reduceCtorEq, resV, resAll, ARes.ev, LV.flat, ite_true, ite_false, exists_eq_left', exists_eq_left, keyOf, implies_true, fillC, capOf]
    have : i = cs.length := by omega
    subst this
    rw [← hLl, List.take_length]
    refine callH_of (g_heap hS) ?_
    intro tn N htn hp2 hnr
    simp (disch := omega) only [f2, f3, f4, f6, f7, f11, f12, f13, ↓SXd, SXu, slBounds, ↓sop, ↓aop, ↓reduceIte, LV.cells, AOp.dst, LV.I, LV.B, LV.U, LV.S, LV.nil, Nat.reduceEqDiff, Nat.reduceAdd, Nat.reduceMul, Nat.reduceSub, Nat.reduceLeDiff, Nat.reduceBEq, Nat.reduceDiv, Nat.reduceMod, Int.reduceToNat, Int.reduceLT, Int.reduceLE, Int.reduceAdd, Int.reduceSub, Int.reduceMul, Int.reduceEq, Int.reduceNeg, reduceCtorEq, resV, resAll, ARes.ev, LV.flat, ite_true, ite_false, exists_eq_left', exists_eq_left, keyOf, implies_true, fillC, capOf]
    have hN := hp2.1
    have hl6 := b6.lt
    refine memK_box (b6.pre hp2) (by simp) fun N3 k1 k2 k3 => ?_
    simp (disch := omega) only [f2, f3, f4, f6, f7, f11, f12, f13, k2.cells, ↓SXd, SXu, slBounds, ↓sop, ↓aop, ↓reduceIte, LV.cells, AOp.dst, LV.I, LV.B, LV.U, LV.S, LV.nil, Nat.reduceEqDiff, Nat.reduceAdd, Nat.reduceMul, Nat.reduceSub, Nat.reduceLeDiff, Nat.reduceBEq, Nat.reduceDiv, Nat.reduceMod, Int.reduceToNat, Int.reduceLT, Int.reduceLE, Int.reduceAdd, Int.reduceSub, Int.reduceMul, Int.reduceEq, Int.reduceNeg, reduceCtorEq, resV, resAll, ARes.ev, LV.flat, ite_true, ite_false, exists_eq_left', exists_eq_left, keyOf, implies_true, fillC, capOf]
    exact cmp_keepL (pre_step (hpre.trans hp2) (by omega) (j := 0) k1 k3) (by omega) (live_step hnr (by omega) k3) (triL_lo _) (by simp [rn, rn0, rn1])

theorem Cell.row_dir {c : Cell} {s : Int} (h : Dir s) : c.row[s.toNat]? = some (.I (c.at s)) := by
  rcases h with rfl | rfl | rfl <;> rfl
theorem side_row {x y z : Int} {T : Turn} {d : Nat} (hd : d < 3) : [LV.I (sideOf x y z T.fr.a), .I (sideOf x y z T.fr.b), .I (sideOf x y z T.fr.c)][d]? = some (.I (sideOf x y z (T.fr.at d))) := by
  rcases (show d = 0 ∨ d = 1 ∨ d = 2 by omega) with rfl | rfl | rfl <;> rfl
theorem g_turning_1 {x y z : Int} {T : Turn} {c : Cell} {tT tS : Nat} {M : Mem} (hT : OkT T) (hS : Sides x y z) (hc : c.inBox x y z) (h1 : Live M tT (.row T.row true 0)) (h2 : Live M tS (.row [.I (sideOf x y z T.fr.a), .I (sideOf x y z T.fr.b), .I (sideOf x y z T.fr.c)] true 0)) :
    CallsTo PG F.impl_turning_of_1 ([.agg [.I c.a, .I c.b, .I c.c]] ++ [(tT, 0), (tS, 0)].map fun p => .ptr p.1 p.2) M (.agg [.I (mapT x y z T c).a, .I (mapT x y z T c).b, .I (mapT x y z T c).c]) M := by
  have ht1 := h1.lt
  have ht2 := h2.lt
  obtain ⟨t1, t2, t3⟩ := hT
  refine calls_run K.impl_turning_of_1 rfl ?_
  simp (disch := omega) only [C.impl_turning_of_1, (h1.app).cells, Turn.row, Cell.row, List.map_cons, List.map_nil, splice, ↓SXd, SXu, slBounds, ↓sop, ↓aop, ↓reduceIte, LV.cells, AOp.dst, LV.I, LV.B, LV.U, LV.S, LV.nil, Nat.reduceEqDiff, Nat.reduceAdd, Nat.reduceMul, Nat.reduceSub, Nat.reduceLeDiff, Nat.reduceBEq, Nat.reduceDiv, Nat.reduceMod, Int.reduceToNat, Int.reduceLT, Int.reduceLE, Int.reduceAdd, Int.reduceSub, Int.reduceMul, Int.reduceEq, Int.reduceNeg, reduceCtorEq, resV, resAll, ARes.ev, LV.flat, ite_true, ite_false, exists_eq_left', exists_eq_left, keyOf, implies_true, fillC, capOf]
  refine ev_loop (fun m fr M' => ∃ d : Nat, d + m = 3 ∧ Pre M M' ∧ Live M' M.length (.row c.row true 0) ∧ Live M' (M.length + 1) (.row [.I 0, .I 0, .I 0] true 0) ∧ Live M' (M.length + 2) (.row (partC (mapT x y z T c) d).row true 0) ∧
    fr 1 = .ptr tT 0 ∧ fr 2 = .ptr tS 0 ∧ fr 3 = .ptr M.length 0 ∧ fr 4 = .ptr (M.length + 1) 0 ∧ fr 5 = .ptr (M.length + 2) 0 ∧ fr 10 = .agg [.I T.fr.a, .I T.fr.b, .I T.fr.c] ∧ fr 11 = .I d) 3
    ⟨0, rfl, Pre.app _ _, Live.new, Live.newj rfl, Live.newj rfl, rfl, rfl, rfl, rfl, rfl, rfl, rfl⟩ ?_
  rintro m fr M' ⟨d, hd, hpre, b3, b4, b5, f1, f2, f3, f4, f5, f10, f11⟩
  simp (disch := omega) only [f1, f2, f3, f4, f5, f10, f11, ↓SXd, SXu, slBounds, ↓sop, ↓aop, ↓reduceIte, LV.cells, AOp.dst, LV.I, LV.B, LV.U, LV.S, LV.nil, Nat.reduceEqDiff, Nat.reduceAdd, Nat.reduceMul, Nat.reduceSub, Nat.reduceLeDiff, Nat.reduceBEq, Nat.reduceDiv, Nat.reduceMod, Int.reduceToNat, Int.reduceLT, Int.reduceLE, Int.reduceAdd, Int.reduceSub, Int.reduceMul, Int.reduceEq, Int.reduceNeg, reduceCtorEq, resV, resAll, ARes.ev, LV.flat, ite_true, ite_false, exists_eq_left', exists_eq_left, keyOf, implies_true, fillC, capOf]
  refine condC_dec (fun hlt => ?_) (fun hlt => ?_)
  · have hd3 : d < 3 := by omega
    have hs := OkT.dir ⟨t1, t2, t3⟩ hd3
    have hma := mapT_at (x := x) (y := y) (z := z) (T := T) (c := c) hd3
    have a1 := at_in hc (T.fr.at d)
    have hss := sideOf_in hS (T.fr.at d)
    have q2 : 0 ≤ T.fr.at d := by rcases hs with h | h | h <;> omega
    have q3 : T.fr.at d < 3 := by rcases hs with h | h | h <;> omega
    have e3 := b3.cell (o := (T.fr.at d).toNat)
    rw [Cell.row_dir hs] at e3
    have hl5 := b5.lt
    have hix : [LV.I T.fr.a, .I T.fr.b, .I T.fr.c][d]? = some (.I (T.fr.at d)) := Cell.row_at hd3
    simp (disch := omega) only [f1, f2, f3, f4, f5, f10, f11, hix, e3, Nat.mul_one, Nat.zero_add, ↓SXd, SXu, slBounds, ↓sop, ↓aop, ↓reduceIte, LV.cells, AOp.dst, LV.I, LV.B, LV.U, LV.S, LV.nil, Nat.reduceEqDiff, Nat.reduceAdd, Nat.reduceMul, Nat.reduceSub, Nat.reduceLeDiff, Nat.reduceBEq, Nat.reduceDiv, Nat.reduceMod, Int.reduceToNat, Int.reduceLT, Int.reduceLE, Int.reduceAdd, Int.reduceSub, Int.reduceMul, Int.reduceEq, Int.reduceNeg, reduceCtorEq, resV, resAll, ARes.ev, LV.flat, ite_true, ite_false, exists_eq_left', exists_eq_left, keyOf, implies_true, fillC, capOf]
    refine memK_at b5 (show d < 3 from hd3) fun N1 k1 k2 k3 => ?_
    have hM := hpre.1
    have hpre1 := pre_step hpre (by omega) (j := 0) k1 k3
    have d3 := live_step b3 (by omega) k3
    have d4 := live_step b4 (by omega) k3
    have e2 := (h1.pre hpre1).cell (o := 3 + d)
    rw [Turn.row_fl hd3] at e2
    have e3 := d3.cell (o := (T.fr.at d).toNat)
    rw [Cell.row_dir hs] at e3
    have e6 := (h2.pre hpre1).cell (o := d)
    rw [side_row hd3] at e6
    simp (disch := omega) only [f1, f2, f3, f4, f5, f10, f11, e2, Nat.mul_one, ↓SXd, SXu, slBounds, ↓sop, ↓aop, ↓reduceIte, LV.cells, AOp.dst, LV.I, LV.B, LV.U, LV.S, LV.nil, Nat.reduceEqDiff, Nat.reduceAdd, Nat.reduceMul, Nat.reduceSub, Nat.reduceLeDiff, Nat.reduceBEq, Nat.reduceDiv, Nat.reduceMod, Int.reduceToNat, Int.reduceLT, Int.reduceLE, Int.reduceAdd, Int.reduceSub, Int.reduceMul, Int.reduceEq, Int.reduceNeg, reduceCtorEq, resV, resAll, ARes.ev, LV.flat, ite_true, ite_false, exists_eq_left', exists_eq_left, keyOf, implies_true, fillC, capOf]
    refine condC_dec (fun hf => ?_) (fun hf => ?_)
    · simp (disch := omega) only [f1, f2, f3, f4, f5, f10, f11, e3, e6, q2, q3, Nat.mul_one, Nat.zero_add, ↓SXd, SXu, slBounds, ↓sop, ↓aop, ↓reduceIte, LV.cells, AOp.dst, LV.I, LV.B, LV.U, LV.S, LV.nil, Nat.reduceEqDiff, Nat.reduceAdd, Nat.reduceMul, Nat.reduceSub, Nat.reduceLeDiff, Nat.reduceBEq, Nat.reduceDiv, Nat.reduceMod, Int.reduceToNat, Int.reduceLT, Int.reduceLE, Int.reduceAdd, Int.reduceSub, Int.reduceMul, Int.reduceEq, Int.reduceNeg, reduceCtorEq, resV, resAll, ARes.ev, LV.flat, ite_true, ite_false, exists_eq_left', exists_eq_left, keyOf, implies_true, fillC, capOf]
      refine memK_at k2 (by rw [List.length_set]; exact hd3) fun N2 l1 l2 l3 => ?_
      simp (disch := omega) only [f1, f2, f3, f4, f5, f10, f11, ↓SXd, SXu, slBounds, ↓sop, ↓aop, ↓reduceIte, LV.cells, AOp.dst, LV.I, LV.B, LV.U, LV.S, LV.nil, Nat.reduceEqDiff, Nat.reduceAdd, Nat.reduceMul, Nat.reduceSub, Nat.reduceLeDiff, Nat.reduceBEq, Nat.reduceDiv, Nat.reduceMod, Int.reduceToNat, Int.reduceLT, Int.reduceLE, Int.reduceAdd, Int.reduceSub, Int.reduceMul, Int.reduceEq, Int.reduceNeg, reduceCtorEq, resV, resAll, ARes.ev, LV.flat, ite_true, ite_false, exists_eq_left', exists_eq_left, keyOf, implies_true, fillC, capOf]
      rw [List.set_set] at l2
      refine ⟨m - 1, by omega, d + 1, by omega, pre_step hpre1 (by omega) (j := 0) l1 l3, live_step d3 (by omega) l3, live_step d4 (by omega) l3, ?_, f1, f2, f3, f4, f5, f10, eqI (natI _)⟩
      rw [← partC_set hd3, hma]
      unfold turnC
      rw [if_pos hf]
      exact l2
    · simp (disch := omega) only [f1, f2, f3, f4, f5, f10, f11, ↓SXd, SXu, slBounds, ↓sop, ↓aop, ↓reduceIte, LV.cells, AOp.dst, LV.I, LV.B, LV.U, LV.S, LV.nil, Nat.reduceEqDiff, Nat.reduceAdd, Nat.reduceMul, Nat.reduceSub, Nat.reduceLeDiff, Nat.reduceBEq, Nat.reduceDiv, Nat.reduceMod, Int.reduceToNat, Int.reduceLT, Int.reduceLE, Int.reduceAdd, Int.reduceSub, Int.reduceMul, Int.reduceEq, Int.reduceNeg, reduceCtorEq, resV, resAll, ARes.ev, LV.flat, ite_true, ite_false, exists_eq_left', exists_eq_left, keyOf, implies_true, fillC, capOf]
      refine ⟨m - 1, by omega, d + 1, by omega, hpre1, d3, d4, ?_, f1, f2, f3, f4, f5, f10, eqI (natI _)⟩
      rw [← partC_set hd3, hma]
      unfold turnC
      rw [if_neg hf]
      exact k2
  · have : d = 3 := by omega
    subst this
    have e7 : partC (mapT x y z T c) 3 = mapT x y z T c := rfl
    rw [e7] at b5
    have hl5 := b5.lt
    simp (disch := omega) only [f1, f2, f3, f4, f5, f10, f11, b5.cells, Cell.row, ↓SXd, SXu, slBounds, ↓sop, ↓aop, ↓reduceIte, LV.cells, AOp.dst, LV.I, LV.B, LV.U, LV.S, LV.nil, Nat.reduceEqDiff, Nat.reduceAdd, Nat.reduceMul, Nat.reduceSub, Nat.reduceLeDiff, Nat.reduceBEq, Nat.reduceDiv, Nat.reduceMod, Int.reduceToNat, Int.reduceLT, Int.reduceLE, Int.reduceAdd, Int.reduceSub, Int.reduceMul, Int.reduceEq, Int.reduceNeg, reduceCtorEq, resV, resAll, ARes.ev, LV.flat, ite_true, ite_false, exists_eq_left', exists_eq_left, keyOf, implies_true, fillC, capOf]
    refine memK_box b4 (by simp) fun N3 k1 k2 k3 => ?_
    simp (disch := omega) only [f1, f2, f3, f4, f5, f10, f11, k2.cells, ↓SXd, SXu, slBounds, ↓sop, ↓aop, ↓reduceIte, LV.cells, AOp.dst, LV.I, LV.B, LV.U, LV.S, LV.nil, Nat.reduceEqDiff, Nat.reduceAdd, Nat.reduceMul, Nat.reduceSub, Nat.reduceLeDiff, Nat.reduceBEq, Nat.reduceDiv, Nat.reduceMod, Int.reduceToNat, Int.reduceLT, Int.reduceLE, Int.reduceAdd, Int.reduceSub, Int.reduceMul, Int.reduceEq, Int.reduceNeg, reduceCtorEq, resV, resAll, ARes.ev, LV.flat, ite_true, ite_false, exists_eq_left', exists_eq_left, keyOf, implies_true, fillC, capOf]
    exact cmp_pre (pre_step hpre (by omega) (j := 0) k1 k3) rfl

theorem g_turning_of {x y z : Int} {t : Nat} {w : Bool} {cs : List Cell} {T : Turn} {M : Mem} (h : Live M t (.row (triL cs) w 3)) (hH : HeapOK x y z cs) (hT : OkT T) :
    CallsTo PG F.impl_turning_of [.agg [.I T.fr.a, .I T.fr.b, .I T.fr.c, .I T.fl.a, .I T.fl.b, .I T.fl.c], .agg [.I x, .I y, .I z, .ref t 0 cs.length]] M
      (.agg [.I (turnHp x y z T cs).x, .I (turnHp x y z T cs).y, .I (turnHp x y z T cs).z, .ref M.length 0 (turnHp x y z T cs).cs.length]) (M ++ [some (.row (triL (turnHp x y z T cs).cs) true 3)]) := by
  have hS := hH.1
  have hlen := hH.len
  have hs : ∀ s, Dir s → [LV.I x, .I y, .I z][s.toNat]? = some (.I (sideOf x y z s)) := fun s h => by rcases h with rfl | rfl | rfl <;> rfl
  obtain ⟨t1, t2, t3⟩ := id hT
  have q : ∀ s, Dir s → 0 ≤ s ∧ s < 3 := fun s h => by rcases h with rfl | rfl | rfl <;> omega
  obtain ⟨q1, q1'⟩ := q _ t1
  obtain ⟨q2, q2'⟩ := q _ t2
  obtain ⟨q3, q3'⟩ := q _ t3
  refine calls_run K.impl_turning_of rfl ?_
  simp (disch := omega) only [C.impl_turning_of, ↓SXd, SXu, slBounds, ↓sop, ↓aop, ↓reduceIte, LV.cells, AOp.dst, LV.I, LV.B, LV.U, LV.S, LV.nil, Nat.reduceEqDiff, Nat.reduceAdd, Nat.reduceMul, Nat.reduceSub, Nat.reduceLeDiff, Nat.reduceBEq, Nat.reduceDiv, Nat.reduceMod, Int.reduceToNat, Int.reduceLT, Int.reduceLE, Int.reduceAdd, Int.reduceSub, Int.reduceMul, Int.reduceEq, Int.reduceNeg, reduceCtorEq, resV, resAll, ARes.ev, LV.flat, ite_true, ite_false, exists_eq_left', exists_eq_left, keyOf, implies_true, fillC, capOf]
  refine callK_of (g_box) ?_
  simp (disch := omega) only [(hs _ t1), (hs _ t2), (hs _ t3), Nat.mul_one, Nat.zero_add, splice, ↓SXd, SXu, slBounds, ↓sop, ↓aop, ↓reduceIte, LV.cells, AOp.dst, LV.I, LV.B, LV.U, LV.S, LV.nil, Nat.reduceEqDiff, Nat.reduceAdd, Nat.reduceMul, Nat.reduceSub, Nat.reduceLeDiff, Nat.reduceBEq, Nat.reduceDiv, Nat.reduceMod, Int.reduceToNat, Int.reduceLT, Int.reduceLE, Int.reduceAdd, Int.reduceSub, Int.reduceMul, Int.reduceEq, Int.reduceNeg, reduceCtorEq, resV, resAll, ARes.ev, LV.flat, ite_true, ite_false, exists_eq_left', exists_eq_left, keyOf, implies_true, fillC, capOf]
  refine callK_of (g_moved (g := mapT x y z T) (Has.app h.has) (by omega) (turnSides hS T) (fun c hc => mapT_in (hH.mem hc) T) fun M' hp c hc => ?_) ?_
  · exact g_turning_1 hT hS (hH.mem hc) ((Live.newj (j := 0) rfl).pre hp) ((Live.newj (j := 4) rfl).pre hp)
  simp (disch := omega) only [splice, ↓SXd, SXu, slBounds, ↓sop, ↓aop, ↓reduceIte, LV.cells, AOp.dst, LV.I, LV.B, LV.U, LV.S, LV.nil, Nat.reduceEqDiff, Nat.reduceAdd, Nat.reduceMul, Nat.reduceSub, Nat.reduceLeDiff, Nat.reduceBEq, Nat.reduceDiv, Nat.reduceMod, Int.reduceToNat, Int.reduceLT, Int.reduceLE, Int.reduceAdd, Int.reduceSub, Int.reduceMul, Int.reduceEq, Int.reduceNeg, reduceCtorEq, resV, resAll, ARes.ev, LV.flat, ite_true, ite_false, exists_eq_left', exists_eq_left, keyOf, implies_true, fillC, capOf]
  exact cmp_keep1 (j := 5) rfl (triL_lo _) (by simp [rn, rn0, rn1, keepR_n, turnHp])
end Go.Ab

/- The abstract code of some functions (written by a program of mine from the translation, by way of prepF). -/
namespace Go.Ab.C
open Go.Ab
def spec_l8Same : AFn :=
  ⟨2, 15, [.tmp 4],
    .seq (.ops [(none, .box 2 (.t 0)),
       (none, .box 3 (.t 1)),
       (none, .mv 4 (.c (.B false)))])
    (.seq (.ops [(none, .loadN 5 4 (.t 2)),
        (none, .loadN 6 4 (.t 3)),
        (none, .call (some 7) F.spec_l8Less [(.t 5), (.t 6)]),
        (none, .un 8 .not (.t 7)),
        (none, .mv 9 (.t 8)),
        (some (9, true), .loadN 10 4 (.t 3)),
        (some (9, true), .loadN 11 4 (.t 2)),
        (some (9, true), .call (some 12) F.spec_l8Less [(.t 10), (.t 11)]),
        (some (9, true), .un 13 .not (.t 12)),
        (none, .pick 14 (.t 9) (.t 13) (.c (.B false))),
        (none, .mv 4 (.t 14))])
     (.ret))⟩
def spec_l8First : AFn :=
  ⟨1, 28, [.cellN 2 4],
    .seq (.ops [(none, .box 1 (.t 0)),
       (none, .alloc 2 [(.I 0), (.I 0), (.I 0), .nil])])
    (.seq (.ops [(none, .loadN 7 4 (.t 1)),
        (none, .call (some 8) F.spec_l2Cropped [(.t 7)]),
        (none, .call (some 9) F.spec_l8Turns []),
        (none, .alloc 3 [(.I 0), (.I 0), (.I 0), .nil]),
        (none, .store 4 (.t 3) (.t 8)),
        (none, .mv 4 (.t 9))])
     (.seq (.seq (.ops [(none, .mv 5 (.c (.I 0)))])
       (.block 0 (.loop (.seq (.seq (.ops [(none, .mv 10 (.t 5)),
              (none, .mv 11 (.t 4)),
              (none, .len 12 (.t 11)),
              (none, .bin 13 .lss (.t 10) (.t 12))])
           (.cond (.t 13) (.skip)
            (.exit 0)))
          (.seq (.block 1 (.seq (.draw [⟨(none, .loadN 16 4 (.t 1)), [], []⟩,
                ⟨(none, .mv 17 (.t 4)), [], []⟩,
                ⟨(none, .mv 18 (.t 5)), [], []⟩,
                ⟨(none, .idxS 19 6 (.t 17) (.t 18)), [], []⟩,
                ⟨(none, .loadN 20 6 (.t 19)), [], []⟩,
                ⟨(none, .alloc 6 [(.I 0), (.I 0), (.I 0), .nil]), [], []⟩,
                ⟨(none, .call (some 21) F.spec_l8Made [(.t 16), (.t 20)]), [5], []⟩,
                ⟨(none, .call (some 22) F.spec_l2Cropped [(.t 21)]), [5], []⟩,
                ⟨(none, .store 4 (.t 6) (.t 22)), [], []⟩])
             (.seq (.ops [(none, .loadN 23 4 (.t 6)),
                 (none, .loadN 24 4 (.t 3)),
                 (none, .call (some 25) F.spec_l8Less [(.t 23), (.t 24)])])
              (.cond (.t 25) (.ops [(none, .loadN 26 4 (.t 6)),
                  (none, .store 4 (.t 3) (.t 26))])
               (.skip)))))
           (.ops [(none, .mv 14 (.t 5)),
              (none, .bin 15 .add (.t 14) (.c (.I 1))),
              (none, .mv 5 (.t 15))]))))))
      (.seq (.ops [(none, .loadN 27 4 (.t 3)),
          (none, .store 4 (.t 2) (.t 27))])
       (.ret))))⟩
end Go.Ab.C

/- That the program has this code. -/
namespace Go.Ab.K
open Go Go.Ab
theorem spec_l8Same : prepF Go.Proofs.Try.prog F.spec_l8Same = some C.spec_l8Same := by kernel_rfl
theorem spec_l8First : prepF Go.Proofs.Try.prog F.spec_l8First = some C.spec_l8First := by kernel_rfl
end Go.Ab.K

/- Contracts: the reference's first forms. -/
namespace Go.Ab
open Go
set_option linter.unusedSimpArgs false
set_option linter.unusedVariables false

theorem h_l8Same {g h : Hp} {t o t' o' : Nat} {M : Mem} (hg : Tri M t o g.cs) (hh : Tri M t' o' h.cs) (hn : g.cs.length ≤ 1000000) (hn' : h.cs.length ≤ 1000000) :
    CallsTo PG F.spec_l8Same [.agg [.I g.x, .I g.y, .I g.z, .ref t o g.cs.length], .agg [.I h.x, .I h.y, .I h.z, .ref t' o' h.cs.length]] M (.B (!lessHp g h && !lessHp h g)) M := by
  refine calls_run K.spec_l8Same rfl ?_
  simp (disch := omega) only [C.spec_l8Same, ↓SXd, SXu, slBounds, ↓sop, ↓aop, ↓reduceIte, LV.cells, AOp.dst, LV.I, LV.B, LV.U, LV.S, LV.nil, Nat.reduceEqDiff, Nat.reduceAdd, Nat.reduceMul, Nat.reduceSub, Nat.reduceLeDiff, Nat.reduceBEq, Nat.reduceDiv, Nat.reduceMod, Int.reduceToNat, Int.reduceLT, Int.reduceLE, Int.reduceAdd, Int.reduceSub, Int.reduceMul, Int.reduceEq, Int.reduceNeg, reduceCtorEq, resV, resAll, ARes.ev, LV.flat, ite_true, ite_false, exists_eq_left', exists_eq_left, keyOf, implies_true, fillC, capOf]
  refine callK_of (h_l8Less hg.app hh.app hn hn') ?_
  simp (disch := omega) only [↓SXd, SXu, slBounds, ↓sop, ↓aop, ↓reduceIte, LV.cells, AOp.dst, LV.I, LV.B, LV.U, LV.S, LV.nil, Nat.reduceEqDiff, Nat.reduceAdd, Nat.reduceMul, Nat.reduceSub, Nat.reduceLeDiff, Nat.reduceBEq, Nat.reduceDiv, Nat.reduceMod, Int.reduceToNat, Int.reduceLT, Int.reduceLE, Int.reduceAdd, Int.reduceSub, Int.reduceMul, Int.reduceEq, Int.reduceNeg, reduceCtorEq, resV, resAll, ARes.ev, LV.flat, ite_true, ite_false, exists_eq_left', exists_eq_left, keyOf, implies_true, fillC, capOf]
  cases h1 : lessHp g h with
  | true =>
    simp (disch := omega) only [h1, ↓SXd, SXu, slBounds, ↓sop, ↓aop, ↓reduceIte, LV.cells, AOp.dst, LV.I, LV.B, LV.U, LV.S, LV.nil, Nat.reduceEqDiff, Nat.reduceAdd, Nat.reduceMul, Nat.reduceSub, Nat.reduceLeDiff, Nat.reduceBEq, Nat.reduceDiv, Nat.reduceMod, Int.reduceToNat, Int.reduceLT, Int.reduceLE, Int.reduceAdd, Int.reduceSub, Int.reduceMul, Int.reduceEq, Int.reduceNeg, reduceCtorEq, resV, resAll, ARes.ev, LV.flat, ite_true, ite_false, exists_eq_left', exists_eq_left, keyOf, implies_true, fillC, capOf]
    exact cmp_drop rfl
  | false =>
    simp (disch := omega) only [h1, ↓SXd, SXu, slBounds, ↓sop, ↓aop, ↓reduceIte, LV.cells, AOp.dst, LV.I, LV.B, LV.U, LV.S, LV.nil, Nat.reduceEqDiff, Nat.reduceAdd, Nat.reduceMul, Nat.reduceSub, Nat.reduceLeDiff, Nat.reduceBEq, Nat.reduceDiv, Nat.reduceMod, Int.reduceToNat, Int.reduceLT, Int.reduceLE, Int.reduceAdd, Int.reduceSub, Int.reduceMul, Int.reduceEq, Int.reduceNeg, reduceCtorEq, resV, resAll, ARes.ev, LV.flat, ite_true, ite_false, exists_eq_left', exists_eq_left, keyOf, implies_true, fillC, capOf]
    refine callK_of (h_l8Less hh.app hg.app hn' hn) ?_
    simp (disch := omega) only [↓SXd, SXu, slBounds, ↓sop, ↓aop, ↓reduceIte, LV.cells, AOp.dst, LV.I, LV.B, LV.U, LV.S, LV.nil, Nat.reduceEqDiff, Nat.reduceAdd, Nat.reduceMul, Nat.reduceSub, Nat.reduceLeDiff, Nat.reduceBEq, Nat.reduceDiv, Nat.reduceMod, Int.reduceToNat, Int.reduceLT, Int.reduceLE, Int.reduceAdd, Int.reduceSub, Int.reduceMul, Int.reduceEq, Int.reduceNeg, reduceCtorEq, resV, resAll, ARes.ev, LV.flat, ite_true, ite_false, exists_eq_left', exists_eq_left, keyOf, implies_true, fillC, capOf]
    exact cmp_drop rfl

def bestH (b : Hp) (l : List Hp) : Hp := l.foldl (fun b n => if lessHp n b then n else b) b
/-- The positions of a heap: it is turned, and put into the least box. -/
def posHp (x y z : Int) (cs : List Cell) (T : Turn) : Hp := cropHp (turnHp x y z T cs).cs
def formHp (x y z : Int) (cs : List Cell) : Hp := bestH (cropHp cs) (turns.map (posHp x y z cs))
theorem Live.six {N : Mem} {t k e : Nat} {w : Bool} {l : List Turn} (h : Live N t (.row (sixL l) w e)) (hk : k < l.length) : getCells N t (k * 6) 6 = some l[k].row := by
  rw [h.cells, if_pos (by rw [sixL_len]; omega), sixL_at hk]
theorem cells_small {x y z : Int} {cs : List Cell} (hH : HeapOK x y z cs) : ∀ c ∈ cs, Small c := fun c hc => by
  obtain ⟨⟨_, _⟩, ⟨_, _⟩, ⟨_, _⟩⟩ := hH.mem hc
  obtain ⟨⟨_, _⟩, ⟨_, _⟩, ⟨_, _⟩⟩ := hH.1
  exact ⟨⟨by omega, by omega⟩, ⟨by omega, by omega⟩, ⟨by omega, by omega⟩⟩
theorem turnHp_ok {x y z : Int} {cs : List Cell} (hH : HeapOK x y z cs) (T : Turn) : HeapOK (turnHp x y z T cs).x (turnHp x y z T cs).y (turnHp x y z T cs).z (turnHp x y z T cs).cs := pick_ok (turnSides hH.1 T) _
theorem turnHp_pos {x y z : Int} {cs : List Cell} (hH : HeapOK x y z cs) (h0 : 0 < cs.length) (T : Turn) : 0 < (turnHp x y z T cs).cs.length := by
  have hm : mapT x y z T (cs.getD 0 default) ∈ (turnHp x y z T cs).cs := (mem_pick (turnSides hH.1 T)).2 ⟨mapT_in (hH.mem (getD_mem' h0)) T, decide_eq_true (List.mem_map_of_mem (getD_mem' h0))⟩
  exact List.length_pos_of_mem hm
theorem cropHp_len {cs : List Cell} : (cropHp cs).cs.length = cs.length := List.length_map ..
theorem bestH_len {n : Nat} : ∀ {l : List Hp} {b : Hp}, b.cs.length ≤ n → (∀ h ∈ l, h.cs.length ≤ n) → (bestH b l).cs.length ≤ n
  | [], _, h, _ => h
  | a :: l, b, h, hl => by
    show (bestH (if lessHp a b then a else b) l).cs.length ≤ n
    refine bestH_len ?_ fun e he => hl e (by simp [he])
    split
    · exact hl a (by simp)
    · exact h

theorem h_l8First {x y z : Int} {t : Nat} {w : Bool} {cs : List Cell} {M : Mem} (h : Live M t (.row (triL cs) w 3)) (hH : HeapOK x y z cs) (h0 : 0 < cs.length) :
    CallsTo PG F.spec_l8First [.agg [.I x, .I y, .I z, .ref t 0 cs.length]] M (.agg [.I (formHp x y z cs).x, .I (formHp x y z cs).y, .I (formHp x y z cs).z, .ref M.length 0 (formHp x y z cs).cs.length]) (M ++ [some (.row (triL (formHp x y z cs).cs) true 3)]) := by
  have ht := h.lt
  have hlen := hH.len
  have h24 := turns_len
  have hbl : ∀ k, (bestH (cropHp cs) ((turns.map (posHp x y z cs)).take k)).cs.length ≤ 64 := fun k => bestH_len (by rw [cropHp_len]; exact hlen) fun g hg => by
    obtain ⟨T, _, rfl⟩ := List.mem_map.1 (List.mem_of_mem_take hg)
    unfold posHp; rw [cropHp_len]; exact (turnHp_ok hH T).len
  refine calls_run K.spec_l8First rfl ?_
  simp (disch := omega) only [C.spec_l8First, ↓SXd, SXu, slBounds, ↓sop, ↓aop, ↓reduceIte, LV.cells, AOp.dst, LV.I, LV.B, LV.U, LV.S, LV.nil, Nat.reduceEqDiff, Nat.reduceAdd, Nat.reduceMul, Nat.reduceSub, Nat.reduceLeDiff, Nat.reduceBEq, Nat.reduceDiv, Nat.reduceMod, Int.reduceToNat, Int.reduceLT, Int.reduceLE, Int.reduceAdd, Int.reduceSub, Int.reduceMul, Int.reduceEq, Int.reduceNeg, reduceCtorEq, resV, resAll, ARes.ev, LV.flat, ite_true, ite_false, exists_eq_left', exists_eq_left, keyOf, implies_true, fillC, capOf]
  refine callK_of (h_l2Cropped (Has.app h.has) (by omega) h0 (cells_small hH)) ?_
  simp (disch := omega) only [↓SXd, SXu, slBounds, ↓sop, ↓aop, ↓reduceIte, LV.cells, AOp.dst, LV.I, LV.B, LV.U, LV.S, LV.nil, Nat.reduceEqDiff, Nat.reduceAdd, Nat.reduceMul, Nat.reduceSub, Nat.reduceLeDiff, Nat.reduceBEq, Nat.reduceDiv, Nat.reduceMod, Int.reduceToNat, Int.reduceLT, Int.reduceLE, Int.reduceAdd, Int.reduceSub, Int.reduceMul, Int.reduceEq, Int.reduceNeg, reduceCtorEq, resV, resAll, ARes.ev, LV.flat, ite_true, ite_false, exists_eq_left', exists_eq_left, keyOf, implies_true, fillC, capOf]
  refine callK_of (h_l8Turns) ?_
  simp (disch := omega) only [splice, ↓SXd, SXu, slBounds, ↓sop, ↓aop, ↓reduceIte, LV.cells, AOp.dst, LV.I, LV.B, LV.U, LV.S, LV.nil, Nat.reduceEqDiff, Nat.reduceAdd, Nat.reduceMul, Nat.reduceSub, Nat.reduceLeDiff, Nat.reduceBEq, Nat.reduceDiv, Nat.reduceMod, Int.reduceToNat, Int.reduceLT, Int.reduceLE, Int.reduceAdd, Int.reduceSub, Int.reduceMul, Int.reduceEq, Int.reduceNeg, reduceCtorEq, resV, resAll, ARes.ev, LV.flat, ite_true, ite_false, exists_eq_left', exists_eq_left, keyOf, implies_true, fillC, capOf]
  refine ev_loop (fun m fr M' => ∃ k u : Nat, k + m = 24 ∧ Pre M M' ∧ M.length ≤ u ∧ Live M' M.length (.row [.I x, .I y, .I z, .ref t 0 cs.length] true 0) ∧ Live M' (M.length + 1) (.row [.I 0, .I 0, .I 0, .nil] true 0) ∧ Live M' (M.length + 3) (.row (sixL turns) true 6) ∧
    Live M' (M.length + 4) ((bestH (cropHp cs) ((turns.map (posHp x y z cs)).take k)).row (.ref u 0 (bestH (cropHp cs) ((turns.map (posHp x y z cs)).take k)).cs.length)) ∧
    Live M' u (.row (triL (bestH (cropHp cs) ((turns.map (posHp x y z cs)).take k)).cs) true 3) ∧
    fr 1 = .ptr M.length 0 ∧ fr 2 = .ptr (M.length + 1) 0 ∧ fr 3 = .ptr (M.length + 4) 0 ∧ fr 4 = .ref (M.length + 3) 0 24 ∧ fr 5 = .I k) 24
    ⟨0, M.length + 2, rfl, Pre.app _ _, by omega, Live.new, Live.newj rfl, Live.newj rfl, Live.newj rfl, Live.newj rfl, rfl, rfl, rfl, by rw [← h24]; rfl, rfl⟩ ?_
  rintro m fr M' ⟨k, u, hk, hpre, hu, b1, b2, b4, b3, bu, f1, f2, f3, f4, f5⟩
  simp (disch := omega) only [f1, f2, f3, f4, f5, ↓SXd, SXu, slBounds, ↓sop, ↓aop, ↓reduceIte, LV.cells, AOp.dst, LV.I, LV.B, LV.U, LV.S, LV.nil, Nat.reduceEqDiff, Nat.reduceAdd, Nat.reduceMul, Nat.reduceSub, Nat.reduceLeDiff, Nat.reduceBEq, Nat.reduceDiv, Nat.reduceMod, Int.reduceToNat, Int.reduceLT, Int.reduceLE, Int.reduceAdd, Int.reduceSub, Int.reduceMul, Int.reduceEq, Int.reduceNeg, reduceCtorEq, resV, resAll, ARes.ev, LV.flat, ite_true, ite_false, exists_eq_left', exists_eq_left, keyOf, implies_true, fillC, capOf]
  refine condC_dec (fun hlt => ?_) (fun hlt => ?_)
  · have hk24 : k < turns.length := by omega
    have hok := turns_ok _ (List.getElem_mem hk24)
    have hsx := b4.six hk24
    have hts : (turns.map (posHp x y z cs)).take (k + 1) = (turns.map (posHp x y z cs)).take k ++ [posHp x y z cs turns[k]] := by
      rw [List.take_succ, List.getElem?_eq_getElem (by simpa using hk24)]; simp
    have hbs : bestH (cropHp cs) ((turns.map (posHp x y z cs)).take (k + 1)) = if lessHp (posHp x y z cs turns[k]) (bestH (cropHp cs) ((turns.map (posHp x y z cs)).take k)) then posHp x y z cs turns[k] else bestH (cropHp cs) ((turns.map (posHp x y z cs)).take k) := by
      rw [hts]; unfold bestH; rw [List.foldl_append]; rfl
    have hbk := hbl k
    generalize turns[k] = T at hok hsx hts hbs
    generalize bestH (cropHp cs) ((turns.map (posHp x y z cs)).take k) = B at b3 bu hbs hbk
    have hl1 := b3.lt
    have hH' := turnHp_ok hH T
    have hlen' := hH'.len
    simp (disch := omega) only [f1, f2, f3, f4, f5, b1.cells, hsx, Turn.row, Cell.row, List.cons_append, List.nil_append, List.getElem?_append_left, ↓SXd, SXu, slBounds, ↓sop, ↓aop, ↓reduceIte, LV.cells, AOp.dst, LV.I, LV.B, LV.U, LV.S, LV.nil, Nat.reduceEqDiff, Nat.reduceAdd, Nat.reduceMul, Nat.reduceSub, Nat.reduceLeDiff, Nat.reduceBEq, Nat.reduceDiv, Nat.reduceMod, Int.reduceToNat, Int.reduceLT, Int.reduceLE, Int.reduceAdd, Int.reduceSub, Int.reduceMul, Int.reduceEq, Int.reduceNeg, reduceCtorEq, resV, resAll, ARes.ev, LV.flat, ite_true, ite_false, exists_eq_left', exists_eq_left, keyOf, implies_true, fillC, capOf]
    refine callK_of (h_l8Made (h.pre (hpre.trans (Pre.app _ _))) hH hok) ?_
    simp (disch := omega) only [f1, f2, f3, f4, f5, ↓SXd, SXu, slBounds, ↓sop, ↓aop, ↓reduceIte, LV.cells, AOp.dst, LV.I, LV.B, LV.U, LV.S, LV.nil, Nat.reduceEqDiff, Nat.reduceAdd, Nat.reduceMul, Nat.reduceSub, Nat.reduceLeDiff, Nat.reduceBEq, Nat.reduceDiv, Nat.reduceMod, Int.reduceToNat, Int.reduceLT, Int.reduceLE, Int.reduceAdd, Int.reduceSub, Int.reduceMul, Int.reduceEq, Int.reduceNeg, reduceCtorEq, resV, resAll, ARes.ev, LV.flat, ite_true, ite_false, exists_eq_left', exists_eq_left, keyOf, implies_true, fillC, capOf]
    refine callK_of (h_l2Cropped (Live.newj (M := M') (j := 1) (b := .row (triL (turnHp x y z T cs).cs) true 3) rfl).has (by omega) (turnHp_pos hH h0 T) (cells_small hH')) ?_
    simp (disch := omega) only [f1, f2, f3, f4, f5, splice, b3.app.cells, ↓SXd, SXu, slBounds, ↓sop, ↓aop, ↓reduceIte, LV.cells, AOp.dst, LV.I, LV.B, LV.U, LV.S, LV.nil, Nat.reduceEqDiff, Nat.reduceAdd, Nat.reduceMul, Nat.reduceSub, Nat.reduceLeDiff, Nat.reduceBEq, Nat.reduceDiv, Nat.reduceMod, Int.reduceToNat, Int.reduceLT, Int.reduceLE, Int.reduceAdd, Int.reduceSub, Int.reduceMul, Int.reduceEq, Int.reduceNeg, reduceCtorEq, resV, resAll, ARes.ev, LV.flat, ite_true, ite_false, exists_eq_left', exists_eq_left, keyOf, implies_true, fillC, capOf]
    rw [show posHp x y z cs T = cropHp (turnHp x y z T cs).cs from rfl] at hbs hts
    have hpl : (cropHp (turnHp x y z T cs).cs).cs.length ≤ 64 := by rw [cropHp_len]; exact hlen'
    generalize cropHp (turnHp x y z T cs).cs = P at hbs hts hpl ⊢
    have e6 : Live (M' ++ [some (.row [.I P.x, .I P.y, .I P.z, .ref (M'.length + 2) 0 P.cs.length] true 0), some (.row (triL (turnHp x y z T cs).cs) true 3), some (.row (triL P.cs) true 3)]) M'.length (.row [.I P.x, .I P.y, .I P.z, .ref (M'.length + 2) 0 P.cs.length] true 0) := Live.new
    have eP : Live (M' ++ [some (.row [.I P.x, .I P.y, .I P.z, .ref (M'.length + 2) 0 P.cs.length] true 0), some (.row (triL (turnHp x y z T cs).cs) true 3), some (.row (triL P.cs) true 3)]) (M'.length + 2) (.row (triL P.cs) true 3) := Live.newj rfl
    have hp1 : Pre M' (M' ++ [some (.row [.I P.x, .I P.y, .I P.z, .ref (M'.length + 2) 0 P.cs.length] true 0), some (.row (triL (turnHp x y z T cs).cs) true 3), some (.row (triL P.cs) true 3)]) := Pre.app _ _
    generalize M' ++ [some (.row [.I P.x, .I P.y, .I P.z, .ref (M'.length + 2) 0 P.cs.length] true 0), some (.row (triL (turnHp x y z T cs).cs) true 3), some (.row (triL P.cs) true 3)] = N at e6 eP hp1 ⊢
    have hN := hp1.1
    refine callK_of (h_l8Less (g := P) (h := B) eP.has (bu.pre hp1).has (by omega) (by omega)) ?_
    simp (disch := omega) only [f1, f2, f3, f4, f5, ↓SXd, SXu, slBounds, ↓sop, ↓aop, ↓reduceIte, LV.cells, AOp.dst, LV.I, LV.B, LV.U, LV.S, LV.nil, Nat.reduceEqDiff, Nat.reduceAdd, Nat.reduceMul, Nat.reduceSub, Nat.reduceLeDiff, Nat.reduceBEq, Nat.reduceDiv, Nat.reduceMod, Int.reduceToNat, Int.reduceLT, Int.reduceLE, Int.reduceAdd, Int.reduceSub, Int.reduceMul, Int.reduceEq, Int.reduceNeg, reduceCtorEq, resV, resAll, ARes.ev, LV.flat, ite_true, ite_false, exists_eq_left', exists_eq_left, keyOf, implies_true, fillC, capOf]
    cases hl : lessHp P B with
    | true =>
      rw [if_pos hl] at hbs
      simp (disch := omega) only [f1, f2, f3, f4, f5, hl, e6.cells, ↓SXd, SXu, slBounds, ↓sop, ↓aop, ↓reduceIte, LV.cells, AOp.dst, LV.I, LV.B, LV.U, LV.S, LV.nil, Nat.reduceEqDiff, Nat.reduceAdd, Nat.reduceMul, Nat.reduceSub, Nat.reduceLeDiff, Nat.reduceBEq, Nat.reduceDiv, Nat.reduceMod, Int.reduceToNat, Int.reduceLT, Int.reduceLE, Int.reduceAdd, Int.reduceSub, Int.reduceMul, Int.reduceEq, Int.reduceNeg, reduceCtorEq, resV, resAll, ARes.ev, LV.flat, ite_true, ite_false, exists_eq_left', exists_eq_left, keyOf, implies_true, fillC, capOf]
      refine memK_box (b3.pre hp1) (by simp) fun N3 k1 k2 k3 => ?_
      simp (disch := omega) only [f1, f2, f3, f4, f5, ↓SXd, SXu, slBounds, ↓sop, ↓aop, ↓reduceIte, LV.cells, AOp.dst, LV.I, LV.B, LV.U, LV.S, LV.nil, Nat.reduceEqDiff, Nat.reduceAdd, Nat.reduceMul, Nat.reduceSub, Nat.reduceLeDiff, Nat.reduceBEq, Nat.reduceDiv, Nat.reduceMod, Int.reduceToNat, Int.reduceLT, Int.reduceLE, Int.reduceAdd, Int.reduceSub, Int.reduceMul, Int.reduceEq, Int.reduceNeg, reduceCtorEq, resV, resAll, ARes.ev, LV.flat, ite_true, ite_false, exists_eq_left', exists_eq_left, keyOf, implies_true, fillC, capOf]
      rw [← hbs] at k2 eP ⊢
      exact ⟨m - 1, by omega, k + 1, M'.length + 2, by omega, pre_step (hpre.trans hp1) (by omega) (j := 0) k1 k3, by have := hpre.1; omega, live_step (b1.pre hp1) (by omega) k3, live_step (b2.pre hp1) (by omega) k3, live_step (b4.pre hp1) (by omega) k3, k2, live_step eP (by omega) k3, f1, f2, f3, f4, eqI (natI _)⟩
    | false =>
      rw [if_neg (by rw [hl]; simp)] at hbs
      simp (disch := omega) only [f1, f2, f3, f4, f5, hl, ↓SXd, SXu, slBounds, ↓sop, ↓aop, ↓reduceIte, LV.cells, AOp.dst, LV.I, LV.B, LV.U, LV.S, LV.nil, Nat.reduceEqDiff, Nat.reduceAdd, Nat.reduceMul, Nat.reduceSub, Nat.reduceLeDiff, Nat.reduceBEq, Nat.reduceDiv, Nat.reduceMod, Int.reduceToNat, Int.reduceLT, Int.reduceLE, Int.reduceAdd, Int.reduceSub, Int.reduceMul, Int.reduceEq, Int.reduceNeg, reduceCtorEq, resV, resAll, ARes.ev, LV.flat, ite_true, ite_false, exists_eq_left', exists_eq_left, keyOf, implies_true, fillC, capOf]
      rw [← hbs] at b3 bu
      exact ⟨m - 1, by omega, k + 1, u, by omega, hpre.trans hp1, hu, b1.pre hp1, b2.pre hp1, b4.pre hp1, b3.pre hp1, bu.pre hp1, f1, f2, f3, f4, eqI (natI _)⟩
  · simp (disch := omega) only [f1, f2, f3, f4, f5, ↓SXd, SXu, slBounds, ↓sop, ↓aop, ↓reduceIte, LV.cells, AOp.dst, LV.I, LV.B, LV.U, LV.S, LV.nil, Nat.reduceEqDiff, Nat.reduceAdd, Nat.reduceMul, Nat.reduceSub, Nat.reduceLeDiff, Nat.reduceBEq, Nat.reduceDiv, Nat.reduceMod, Int.reduceToNat, Int.reduceLT, Int.reduceLE, Int.reduceAdd, Int.reduceSub, Int.reduceMul, Int.reduceEq, Int.reduceNeg, reduceCtorEq, resV, resAll, ARes.ev, LV.flat, ite_true, ite_false, exists_eq_left', exists_eq_left, keyOf, implies_true, fillC, capOf]
    have : k = 24 := by omega
    subst this
    rw [List.take_of_length_le (by simp [h24])] at b3 bu
    have hf : bestH (cropHp cs) (turns.map (posHp x y z cs)) = formHp x y z cs := rfl
    rw [hf] at b3 bu
    simp (disch := omega) only [f1, f2, f3, f4, f5, b3.cells, ↓SXd, SXu, slBounds, ↓sop, ↓aop, ↓reduceIte, LV.cells, AOp.dst, LV.I, LV.B, LV.U, LV.S, LV.nil, Nat.reduceEqDiff, Nat.reduceAdd, Nat.reduceMul, Nat.reduceSub, Nat.reduceLeDiff, Nat.reduceBEq, Nat.reduceDiv, Nat.reduceMod, Int.reduceToNat, Int.reduceLT, Int.reduceLE, Int.reduceAdd, Int.reduceSub, Int.reduceMul, Int.reduceEq, Int.reduceNeg, reduceCtorEq, resV, resAll, ARes.ev, LV.flat, ite_true, ite_false, exists_eq_left', exists_eq_left, keyOf, implies_true, fillC, capOf]
    have hl1 := b3.lt
    refine memK_box b2 (by simp) fun N3 k1 k2 k3 => ?_
    simp (disch := omega) only [f1, f2, f3, f4, f5, k2.cells, ↓SXd, SXu, slBounds, ↓sop, ↓aop, ↓reduceIte, LV.cells, AOp.dst, LV.I, LV.B, LV.U, LV.S, LV.nil, Nat.reduceEqDiff, Nat.reduceAdd, Nat.reduceMul, Nat.reduceSub, Nat.reduceLeDiff, Nat.reduceBEq, Nat.reduceDiv, Nat.reduceMod, Int.reduceToNat, Int.reduceLT, Int.reduceLE, Int.reduceAdd, Int.reduceSub, Int.reduceMul, Int.reduceEq, Int.reduceNeg, reduceCtorEq, resV, resAll, ARes.ev, LV.flat, ite_true, ite_false, exists_eq_left', exists_eq_left, keyOf, implies_true, fillC, capOf]
    exact cmp_keepL (pre_step hpre (by omega) (j := 0) k1 k3) hu (live_step bu (bu.ne_esz b2 (by decide)) k3) (triL_lo _) (by simp [rn, rn0, rn1])
end Go.Ab

/- Contracts: the program's least boxes. -/
namespace Go.Ab
open Go
set_option linter.unusedSimpArgs false
set_option linter.unusedVariables false

def leC (a b : Cell) : Prop := a.a ≤ b.a ∧ a.b ≤ b.b ∧ a.c ≤ b.c
theorem leC_trans {a b c : Cell} (h : leC a b) (k : leC b c) : leC a c := by unfold leC at *; omega
theorem loC_le (a b : Cell) : leC (loC a b) a ∧ leC (loC a b) b := by unfold leC loC; simp only; omega
theorem hiC_le (a b : Cell) : leC a (hiC a b) ∧ leC b (hiC a b) := by unfold leC hiC; simp only; omega
theorem fold_lo : ∀ {l : List Cell} {b : Cell}, leC (l.foldl loC b) b ∧ ∀ c ∈ l, leC (l.foldl loC b) c
  | [], b => ⟨by unfold leC; simp, by simp⟩
  | a :: l, b => by
    have h := fold_lo (l := l) (b := loC b a)
    rw [List.foldl_cons]
    refine ⟨leC_trans h.1 (loC_le b a).1, fun c hc => ?_⟩
    rcases List.mem_cons.1 hc with rfl | hc
    · exact leC_trans h.1 (loC_le b _).2
    · exact h.2 c hc
theorem fold_hi : ∀ {l : List Cell} {b : Cell}, leC b (l.foldl hiC b) ∧ ∀ c ∈ l, leC c (l.foldl hiC b)
  | [], b => ⟨by unfold leC; simp, by simp⟩
  | a :: l, b => by
    have h := fold_hi (l := l) (b := hiC b a)
    rw [List.foldl_cons]
    refine ⟨leC_trans (hiC_le b a).1 h.1, fun c hc => ?_⟩
    rcases List.mem_cons.1 hc with rfl | hc
    · exact leC_trans (hiC_le b _).2 h.1
    · exact h.2 c hc
theorem fold_lo_ge {k : Cell} : ∀ {l : List Cell} {b : Cell}, leC k b → (∀ c ∈ l, leC k c) → leC k (l.foldl loC b)
  | [], b, h, _ => h
  | a :: l, b, h, hl => by
    rw [List.foldl_cons]
    refine fold_lo_ge ?_ fun c hc => hl c (by simp [hc])
    have := hl a (by simp)
    unfold leC loC at *; simp only; omega
theorem fold_hi_le {k : Cell} : ∀ {l : List Cell} {b : Cell}, leC b k → (∀ c ∈ l, leC c k) → leC (l.foldl hiC b) k
  | [], b, h, _ => h
  | a :: l, b, h, hl => by
    rw [List.foldl_cons]
    refine fold_hi_le ?_ fun c hc => hl c (by simp [hc])
    have := hl a (by simp)
    unfold leC hiC at *; simp only; omega
theorem crop_ok {x y z : Int} {cs : List Cell} (hH : HeapOK x y z cs) (h0 : 0 < cs.length) : HeapOK (cropHp cs).x (cropHp cs).y (cropHp cs).z (cropHp cs).cs := by
  obtain ⟨⟨_, _⟩, ⟨_, _⟩, ⟨_, _⟩⟩ := hH.1
  have hin : ∀ c ∈ cs, leC ⟨0, 0, 0⟩ c ∧ leC c ⟨x - 1, y - 1, z - 1⟩ := fun c hc => by
    obtain ⟨⟨_, _⟩, ⟨_, _⟩, ⟨_, _⟩⟩ := hH.mem hc
    unfold leC; simp only; omega
  have hg := getD_mem' (d := (default : Cell)) h0
  have l1 : leC ⟨0, 0, 0⟩ (lowOf cs) := fold_lo_ge (hin _ hg).1 fun c hc => (hin c hc).1
  have l2 : leC (highOf cs) ⟨x - 1, y - 1, z - 1⟩ := fold_hi_le (hin _ hg).2 fun c hc => (hin c hc).2
  have l3 : ∀ c ∈ cs, leC (lowOf cs) c := fold_lo.2
  have l4 : ∀ c ∈ cs, leC c (highOf cs) := fold_hi.2
  have l5 := leC_trans (l3 _ hg) (l4 _ hg)
  have hX : (cropHp cs).x = (highOf cs).a - (lowOf cs).a + 1 := rfl
  have hY : (cropHp cs).y = (highOf cs).b - (lowOf cs).b + 1 := rfl
  have hZ : (cropHp cs).z = (highOf cs).c - (lowOf cs).c + 1 := rfl
  have hC : (cropHp cs).cs = cs.map (shift ⟨0 - (lowOf cs).a, 0 - (lowOf cs).b, 0 - (lowOf cs).c⟩) := rfl
  rw [hX, hY, hZ, hC]
  generalize lowOf cs = lo at *
  generalize highOf cs = hi at *
  unfold leC at l1 l2 l5
  simp only at l1 l2 l5
  refine HeapOK.of ⟨⟨by omega, by omega⟩, ⟨by omega, by omega⟩, ⟨by omega, by omega⟩⟩ ?_ fun c hc => ?_
  · rw [List.pairwise_map]
    refine hH.sorted.imp fun {a b} hab => ?_
    unfold Cell.lt shift at *; simp only; omega
  · obtain ⟨d, hd, rfl⟩ := List.mem_map.1 hc
    have h1 := l3 d hd
    have h2 := l4 d hd
    unfold leC at h1 h2
    exact ⟨⟨by unfold shift; simp only; omega, by unfold shift; simp only; omega⟩, ⟨by unfold shift; simp only; omega, by unfold shift; simp only; omega⟩, ⟨by unfold shift; simp only; omega, by unfold shift; simp only; omega⟩⟩

theorem g_added {c p : Cell} {M : Mem} (hc : Small c) (hp : Small p) : CallsTo PG F.impl_added [.agg [.I c.a, .I c.b, .I c.c], .agg [.I p.a, .I p.b, .I p.c]] M (.agg [.I (shift p c).a, .I (shift p c).b, .I (shift p c).c]) M := by
  obtain ⟨⟨_, _⟩, ⟨_, _⟩, ⟨_, _⟩⟩ := hc
  obtain ⟨⟨_, _⟩, ⟨_, _⟩, ⟨_, _⟩⟩ := hp
  refine calls_run K.impl_added rfl ?_
  simp (disch := omega) only [C.impl_added, splice, ↓SXd, SXu, slBounds, ↓sop, ↓aop, ↓reduceIte, LV.cells, AOp.dst, LV.I, LV.B, LV.U, LV.S, LV.nil, Nat.reduceEqDiff, Nat.reduceAdd, Nat.reduceMul, Nat.reduceSub, Nat.reduceLeDiff, Nat.reduceBEq, Nat.reduceDiv, Nat.reduceMod, Int.reduceToNat, Int.reduceLT, Int.reduceLE, Int.reduceAdd, Int.reduceSub, Int.reduceMul, Int.reduceEq, Int.reduceNeg, reduceCtorEq, resV, resAll, ARes.ev, LV.flat, ite_true, ite_false, exists_eq_left', exists_eq_left, keyOf, implies_true, fillC, capOf]
  exact cmp_drop rfl
theorem g_crop_1 {c p : Cell} {t : Nat} {M : Mem} (h : Live M t (.row [.I p.a, .I p.b, .I p.c] true 0)) (hc : Small c) (hp : Small p) :
    CallsTo PG F.impl_CropHeap_1 ([.agg [.I c.a, .I c.b, .I c.c]] ++ [(t, 0)].map fun p => .ptr p.1 p.2) M (.agg [.I (shift p c).a, .I (shift p c).b, .I (shift p c).c]) M := by
  refine calls_run K.impl_CropHeap_1 rfl ?_
  simp (disch := omega) only [C.impl_CropHeap_1, List.map_cons, List.map_nil, h.app.cells, ↓SXd, SXu, slBounds, ↓sop, ↓aop, ↓reduceIte, LV.cells, AOp.dst, LV.I, LV.B, LV.U, LV.S, LV.nil, Nat.reduceEqDiff, Nat.reduceAdd, Nat.reduceMul, Nat.reduceSub, Nat.reduceLeDiff, Nat.reduceBEq, Nat.reduceDiv, Nat.reduceMod, Int.reduceToNat, Int.reduceLT, Int.reduceLE, Int.reduceAdd, Int.reduceSub, Int.reduceMul, Int.reduceEq, Int.reduceNeg, reduceCtorEq, resV, resAll, ARes.ev, LV.flat, ite_true, ite_false, exists_eq_left', exists_eq_left, keyOf, implies_true, fillC, capOf]
  refine callK_of (g_added hc hp) ?_
  simp (disch := omega) only [splice, ↓SXd, SXu, slBounds, ↓sop, ↓aop, ↓reduceIte, LV.cells, AOp.dst, LV.I, LV.B, LV.U, LV.S, LV.nil, Nat.reduceEqDiff, Nat.reduceAdd, Nat.reduceMul, Nat.reduceSub, Nat.reduceLeDiff, Nat.reduceBEq, Nat.reduceDiv, Nat.reduceMod, Int.reduceToNat, Int.reduceLT, Int.reduceLE, Int.reduceAdd, Int.reduceSub, Int.reduceMul, Int.reduceEq, Int.reduceNeg, reduceCtorEq, resV, resAll, ARes.ev, LV.flat, ite_true, ite_false, exists_eq_left', exists_eq_left, keyOf, implies_true, fillC, capOf]
  exact cmp_drop rfl

theorem g_CropHeap {x y z : Int} {t : Nat} {w : Bool} {cs : List Cell} {M : Mem} (h : Live M t (.row (triL cs) w 3)) (hH : HeapOK x y z cs) (h0 : 0 < cs.length) :
    CallsTo PG F.impl_CropHeap [.agg [.I x, .I y, .I z, .ref t 0 cs.length]] M (.tup [.agg [.I (cropHp cs).x, .I (cropHp cs).y, .I (cropHp cs).z, .ref M.length 0 (cropHp cs).cs.length], .B true]) (M ++ [some (.row (triL (cropHp cs).cs) true 3)]) := by
  have ht := h.lt
  have hlen := hH.len
  have hT : Tri M t 0 cs := h.has
  have hc := cells_small hH
  have hg0 := Tri.get hT (k := 0) h0
  refine calls_run K.impl_CropHeap rfl ?_
  rw [Nat.zero_mul, Nat.add_zero] at hg0
  have hz : ¬ (((cs.length : Nat) : Int) = 0) := by omega
  simp (disch := omega) only [C.impl_CropHeap, ↓SXd, SXu, slBounds, ↓sop, ↓aop, ↓reduceIte, LV.cells, AOp.dst, LV.I, LV.B, LV.U, LV.S, LV.nil, Nat.reduceEqDiff, Nat.reduceAdd, Nat.reduceMul, Nat.reduceSub, Nat.reduceLeDiff, Nat.reduceBEq, Nat.reduceDiv, Nat.reduceMod, Int.reduceToNat, Int.reduceLT, Int.reduceLE, Int.reduceAdd, Int.reduceSub, Int.reduceMul, Int.reduceEq, Int.reduceNeg, reduceCtorEq, resV, resAll, ARes.ev, LV.flat, ite_true, ite_false, exists_eq_left', exists_eq_left, keyOf, implies_true, fillC, capOf]
  refine callK_of (g_IsHeap hT.app (by omega)) ?_
  simp (disch := omega) only [hH, hz, h0, (getCells_app ht), hg0, Nat.zero_mul, Nat.add_zero, Cell.row, splice, List.getElem?_append_left, ↓SXd, SXu, slBounds, ↓sop, ↓aop, ↓reduceIte, LV.cells, AOp.dst, LV.I, LV.B, LV.U, LV.S, LV.nil, Nat.reduceEqDiff, Nat.reduceAdd, Nat.reduceMul, Nat.reduceSub, Nat.reduceLeDiff, Nat.reduceBEq, Nat.reduceDiv, Nat.reduceMod, Int.reduceToNat, Int.reduceLT, Int.reduceLE, Int.reduceAdd, Int.reduceSub, Int.reduceMul, Int.reduceEq, Int.reduceNeg, reduceCtorEq, resV, resAll, ARes.ev, LV.flat, ite_true, ite_false, exists_eq_left', exists_eq_left, keyOf, implies_true, fillC, capOf]
  have hsm : ∀ i, Small ((cs.take i).foldl loC (cs.getD 0 default)) ∧ Small ((cs.take i).foldl hiC (cs.getD 0 default)) := fun i => by
    have h1 := hc _ (getD_mem' (d := default) h0)
    exact ⟨fold_small loC_small h1 fun d hd => hc d (List.mem_of_mem_take hd), fold_small hiC_small h1 fun d hd => hc d (List.mem_of_mem_take hd)⟩
  have hstep : ∀ i, i < cs.length → (cs.take (i + 1)).foldl loC (cs.getD 0 default) = loC ((cs.take i).foldl loC (cs.getD 0 default)) (cs.getD i default) ∧ (cs.take (i + 1)).foldl hiC (cs.getD 0 default) = hiC ((cs.take i).foldl hiC (cs.getD 0 default)) (cs.getD i default) := fun i hi => by
    have e : cs.getD i default = cs[i] := by simp [hi]
    rw [e, List.take_succ, List.getElem?_eq_getElem hi, Option.toList_some, List.foldl_append, List.foldl_append]
    exact ⟨rfl, rfl⟩
  refine ev_loop (fun m fr M' => ∃ i : Nat, i + m = cs.length ∧ Pre M M' ∧ Live M' M.length (.row [.I x, .I y, .I z, .ref t 0 cs.length] true 0) ∧ Live M' (M.length + 1) (.row [.I 0, .I 0, .I 0, .nil] true 0) ∧
    Live M' (M.length + 2) (.row ((cs.take i).foldl loC (cs.getD 0 default)).row true 0) ∧ Live M' (M.length + 3) (.row ((cs.take i).foldl hiC (cs.getD 0 default)).row true 0) ∧
    fr 1 = .ptr M.length 0 ∧ fr 2 = .ptr (M.length + 1) 0 ∧ fr 4 = .ptr (M.length + 2) 0 ∧ fr 5 = .ptr (M.length + 3) 0 ∧ fr 29 = .ref t 0 cs.length ∧ fr 30 = .I cs.length ∧ fr 31 = .I i) cs.length
    ⟨0, by omega, Pre.app _ _, Live.new, Live.newj rfl, Live.newj rfl, Live.newj rfl, rfl, rfl, rfl, rfl, rfl, rfl, rfl⟩ ?_
  rintro m fr M' ⟨i, hi, hpre, b1, b2, b4, b5, f1, f2, f4, f5, f29, f30, f31⟩
  have hlM := b5.lt
  simp (disch := omega) only [f1, f2, f4, f5, f29, f30, f31, ↓SXd, SXu, slBounds, ↓sop, ↓aop, ↓reduceIte, LV.cells, AOp.dst, LV.I, LV.B, LV.U, LV.S, LV.nil, Nat.reduceEqDiff, Nat.reduceAdd, Nat.reduceMul, Nat.reduceSub, Nat.reduceLeDiff, Nat.reduceBEq, Nat.reduceDiv, Nat.reduceMod, Int.reduceToNat, Int.reduceLT, Int.reduceLE, Int.reduceAdd, Int.reduceSub, Int.reduceMul, Int.reduceEq, Int.reduceNeg, reduceCtorEq, resV, resAll, ARes.ev, LV.flat, ite_true, ite_false, exists_eq_left', exists_eq_left, keyOf, implies_true, fillC, capOf]
  refine condC_dec (fun hlt => ?_) (fun hlt => ?_)
  · have hil : i < cs.length := by omega
    have hg := Tri.get (hT.pre hpre) hil
    obtain ⟨s1, s2⟩ := hstep i hil
    rw [Nat.zero_add] at hg
    generalize cs.getD i default = c at hg s1 s2
    simp (disch := omega) only [f1, f2, f4, f5, f29, f30, f31, hg, Cell.row, splice, ↓SXd, SXu, slBounds, ↓sop, ↓aop, ↓reduceIte, LV.cells, AOp.dst, LV.I, LV.B, LV.U, LV.S, LV.nil, Nat.reduceEqDiff, Nat.reduceAdd, Nat.reduceMul, Nat.reduceSub, Nat.reduceLeDiff, Nat.reduceBEq, Nat.reduceDiv, Nat.reduceMod, Int.reduceToNat, Int.reduceLT, Int.reduceLE, Int.reduceAdd, Int.reduceSub, Int.reduceMul, Int.reduceEq, Int.reduceNeg, reduceCtorEq, resV, resAll, ARes.ev, LV.flat, ite_true, ite_false, exists_eq_left', exists_eq_left, keyOf, implies_true, fillC, capOf]
    refine ev_loop (fun m2 fr N => ∃ d : Nat, d + m2 = 3 ∧ Pre M N ∧ M'.length < N.length ∧ Live N M'.length (.row c.row true 0) ∧ Live N M.length (.row [.I x, .I y, .I z, .ref t 0 cs.length] true 0) ∧ Live N (M.length + 1) (.row [.I 0, .I 0, .I 0, .nil] true 0) ∧
      Live N (M.length + 2) (.row (mixC ((cs.take i).foldl loC (cs.getD 0 default)) ((cs.take (i + 1)).foldl loC (cs.getD 0 default)) d).row true 0) ∧ Live N (M.length + 3) (.row (mixC ((cs.take i).foldl hiC (cs.getD 0 default)) ((cs.take (i + 1)).foldl hiC (cs.getD 0 default)) d).row true 0) ∧
      fr 1 = .ptr M.length 0 ∧ fr 2 = .ptr (M.length + 1) 0 ∧ fr 4 = .ptr (M.length + 2) 0 ∧ fr 5 = .ptr (M.length + 3) 0 ∧ fr 29 = .ref t 0 cs.length ∧ fr 30 = .I cs.length ∧ fr 31 = .I i ∧ fr 7 = .ptr M'.length 0 ∧ fr 35 = .I d) 3
      ⟨0, rfl, hpre.trans (Pre.app _ _), by simp, Live.new, b1.app, b2.app, b4.app, b5.app, f1, f2, f4, f5, f29, f30, f31, rfl, rfl⟩ ?_
    clear f1 f2 f4 f5 f29 f30 f31 hg b1 b2 b4 b5 hpre
    rintro m2 fr N ⟨d, hd, hpre, hNM, b7, b1, b2, b4, b5, f1, f2, f4, f5, f29, f30, f31, f7, f35⟩
    simp (disch := omega) only [f1, f2, f4, f5, f29, f30, f31, f7, f35, ↓SXd, SXu, slBounds, ↓sop, ↓aop, ↓reduceIte, LV.cells, AOp.dst, LV.I, LV.B, LV.U, LV.S, LV.nil, Nat.reduceEqDiff, Nat.reduceAdd, Nat.reduceMul, Nat.reduceSub, Nat.reduceLeDiff, Nat.reduceBEq, Nat.reduceDiv, Nat.reduceMod, Int.reduceToNat, Int.reduceLT, Int.reduceLE, Int.reduceAdd, Int.reduceSub, Int.reduceMul, Int.reduceEq, Int.reduceNeg, reduceCtorEq, resV, resAll, ARes.ev, LV.flat, ite_true, ite_false, exists_eq_left', exists_eq_left, keyOf, implies_true, fillC, capOf]
    refine condC_dec (fun hlt2 => ?_) (fun hlt2 => ?_)
    · have hd3 : d < 3 := by omega
      have e4 := b4.cell (o := d)
      have e5 := b5.cell (o := d)
      have e7 := b7.cell (o := d)
      rw [Cell.row_at hd3, mixC_at hd3] at e4 e5
      rw [Cell.row_at hd3] at e7
      simp (disch := omega) only [f1, f2, f4, f5, f29, f30, f31, f7, f35, e4, e5, e7, Nat.mul_one, Nat.zero_add, maxV, if_true, ite_true, ↓SXd, SXu, slBounds, ↓sop, ↓aop, ↓reduceIte, LV.cells, AOp.dst, LV.I, LV.B, LV.U, LV.S, LV.nil, Nat.reduceEqDiff, Nat.reduceAdd, Nat.reduceMul, Nat.reduceSub, Nat.reduceLeDiff, Nat.reduceBEq, Nat.reduceDiv, Nat.reduceMod, Int.reduceToNat, Int.reduceLT, Int.reduceLE, Int.reduceAdd, Int.reduceSub, Int.reduceMul, Int.reduceEq, Int.reduceNeg, reduceCtorEq, resV, resAll, ARes.ev, LV.flat, ite_true, ite_false, exists_eq_left', exists_eq_left, keyOf, implies_true, fillC, capOf]
      refine memK_at b4 hd3 fun N1 k1 k2 k3 => ?_
      have hM := hpre.1
      have c1 := live_step b1 (by omega) k3
      have c2 := live_step b2 (by omega) k3
      have c5 := live_step b5 (by omega) k3
      have c7 := live_step b7 (by omega) k3
      have e0 : N1[M.length + 3]? = N[M.length + 3]? := k3 _ (by omega) b5.lt
      have e00 : N1[M'.length]? = N[M'.length]? := k3 _ (by omega) b7.lt
      simp (disch := omega) only [f1, f2, f4, f5, f29, f30, f31, f7, f35, e0, e00, ↓SXd, SXu, slBounds, ↓sop, ↓aop, ↓reduceIte, LV.cells, AOp.dst, LV.I, LV.B, LV.U, LV.S, LV.nil, Nat.reduceEqDiff, Nat.reduceAdd, Nat.reduceMul, Nat.reduceSub, Nat.reduceLeDiff, Nat.reduceBEq, Nat.reduceDiv, Nat.reduceMod, Int.reduceToNat, Int.reduceLT, Int.reduceLE, Int.reduceAdd, Int.reduceSub, Int.reduceMul, Int.reduceEq, Int.reduceNeg, reduceCtorEq, resV, resAll, ARes.ev, LV.flat, ite_true, ite_false, exists_eq_left', exists_eq_left, keyOf, implies_true, fillC, capOf]
      refine memK_at c5 hd3 fun N2 l1 l2 l3 => ?_
      simp (disch := omega) only [f1, f2, f4, f5, f29, f30, f31, f7, f35, ↓SXd, SXu, slBounds, ↓sop, ↓aop, ↓reduceIte, LV.cells, AOp.dst, LV.I, LV.B, LV.U, LV.S, LV.nil, Nat.reduceEqDiff, Nat.reduceAdd, Nat.reduceMul, Nat.reduceSub, Nat.reduceLeDiff, Nat.reduceBEq, Nat.reduceDiv, Nat.reduceMod, Int.reduceToNat, Int.reduceLT, Int.reduceLE, Int.reduceAdd, Int.reduceSub, Int.reduceMul, Int.reduceEq, Int.reduceNeg, reduceCtorEq, resV, resAll, ARes.ev, LV.flat, ite_true, ite_false, exists_eq_left', exists_eq_left, keyOf, implies_true, fillC, capOf]
      refine ⟨m2 - 1, by omega, d + 1, by omega, pre_step (pre_step hpre (by omega) (j := 0) k1 k3) (by omega) (j := 0) l1 l3, by omega, live_step c7 (by omega) l3, live_step c1 (by omega) l3, live_step c2 (by omega) l3, live_step (t := M.length + 3) (u := M.length + 2) ?_ (by omega) l3, ?_, f1, f2, f4, f5, f29, f30, f31, f7, eqI (natI _)⟩
      · rw [← mixC_set hd3, s1, loC_at hd3, ← s1]; exact k2
      · rw [← mixC_set hd3, s2, hiC_at hd3, ← s2]; exact l2
    · simp (disch := omega) only [f1, f2, f4, f5, f29, f30, f31, f7, f35, ↓SXd, SXu, slBounds, ↓sop, ↓aop, ↓reduceIte, LV.cells, AOp.dst, LV.I, LV.B, LV.U, LV.S, LV.nil, Nat.reduceEqDiff, Nat.reduceAdd, Nat.reduceMul, Nat.reduceSub, Nat.reduceLeDiff, Nat.reduceBEq, Nat.reduceDiv, Nat.reduceMod, Int.reduceToNat, Int.reduceLT, Int.reduceLE, Int.reduceAdd, Int.reduceSub, Int.reduceMul, Int.reduceEq, Int.reduceNeg, reduceCtorEq, resV, resAll, ARes.ev, LV.flat, ite_true, ite_false, exists_eq_left', exists_eq_left, keyOf, implies_true, fillC, capOf]
      have : d = 3 := by omega
      subst this
      exact ⟨m - 1, by omega, i + 1, by omega, hpre, b1, b2, b4, b5, f1, f2, f4, f5, f29, f30, eqI (natI _)⟩
  · have : i = cs.length := by omega
    subst this
    rw [List.take_length] at b4 b5
    have hsm := hsm cs.length
    rw [List.take_length] at hsm
    have hok := crop_ok hH h0
    have hpk := hok.pick
    change Live M' (M.length + 2) (.row (lowOf cs).row true 0) at b4
    change Live M' (M.length + 3) (.row (highOf cs).row true 0) at b5
    change Small (lowOf cs) ∧ Small (highOf cs) at hsm
    have hX : (cropHp cs).x = (highOf cs).a - (lowOf cs).a + 1 := rfl
    have hY : (cropHp cs).y = (highOf cs).b - (lowOf cs).b + 1 := rfl
    have hZ : (cropHp cs).z = (highOf cs).c - (lowOf cs).c + 1 := rfl
    have hC : (cropHp cs).cs = cs.map (shift ⟨0 - (lowOf cs).a, 0 - (lowOf cs).b, 0 - (lowOf cs).c⟩) := rfl
    rw [hX, hY, hZ, hC] at hok hpk ⊢
    generalize lowOf cs = lo at *
    generalize highOf cs = hi at *
    have hsl : Small ⟨0 - lo.a, 0 - lo.b, 0 - lo.c⟩ := by
      obtain ⟨⟨⟨_, _⟩, ⟨_, _⟩, ⟨_, _⟩⟩, _⟩ := hsm
      exact ⟨⟨by simp only; omega, by simp only; omega⟩, ⟨by simp only; omega, by simp only; omega⟩, ⟨by simp only; omega, by simp only; omega⟩⟩
    have hsd : Small (shift ⟨0 - lo.a, 0 - lo.b, 0 - lo.c⟩ hi) := by
      obtain ⟨⟨_, _⟩, ⟨_, _⟩, ⟨_, _⟩⟩ := hok.1
      unfold shift
      exact ⟨⟨by simp only; omega, by simp only; omega⟩, ⟨by simp only; omega, by simp only; omega⟩, ⟨by simp only; omega, by simp only; omega⟩⟩
    have hso : Small ⟨1, 1, 1⟩ := ⟨⟨by decide, by decide⟩, ⟨by decide, by decide⟩, ⟨by decide, by decide⟩⟩
    have hin : ∀ c ∈ cs, (shift ⟨0 - lo.a, 0 - lo.b, 0 - lo.c⟩ c).inBox (hi.a - lo.a + 1) (hi.b - lo.b + 1) (hi.c - lo.c + 1) := fun c hc => hok.mem (List.mem_map_of_mem hc)
    have hSh := hok.1
    obtain ⟨⟨⟨_, _⟩, ⟨_, _⟩, ⟨_, _⟩⟩, hsh⟩ := hsm
    simp (disch := omega) only [f1, f2, f4, f5, f29, f30, f31, b4.cell, b5.cell, Cell.row, splice, b1.app.cells, b5.app.cells, ↓SXd, SXu, slBounds, ↓sop, ↓aop, ↓reduceIte, LV.cells, AOp.dst, LV.I, LV.B, LV.U, LV.S, LV.nil, Nat.reduceEqDiff, Nat.reduceAdd, Nat.reduceMul, Nat.reduceSub, Nat.reduceLeDiff, Nat.reduceBEq, Nat.reduceDiv, Nat.reduceMod, Int.reduceToNat, Int.reduceLT, Int.reduceLE, Int.reduceAdd, Int.reduceSub, Int.reduceMul, Int.reduceEq, Int.reduceNeg, reduceCtorEq, resV, resAll, ARes.ev, LV.flat, ite_true, ite_false, exists_eq_left', exists_eq_left, keyOf, implies_true, fillC, capOf]
    refine callK_of (g_added (p := ⟨0 - lo.a, 0 - lo.b, 0 - lo.c⟩) hsh hsl) ?_
    simp (disch := omega) only [f1, f2, f4, f5, f29, f30, f31, ↓SXd, SXu, slBounds, ↓sop, ↓aop, ↓reduceIte, LV.cells, AOp.dst, LV.I, LV.B, LV.U, LV.S, LV.nil, Nat.reduceEqDiff, Nat.reduceAdd, Nat.reduceMul, Nat.reduceSub, Nat.reduceLeDiff, Nat.reduceBEq, Nat.reduceDiv, Nat.reduceMod, Int.reduceToNat, Int.reduceLT, Int.reduceLE, Int.reduceAdd, Int.reduceSub, Int.reduceMul, Int.reduceEq, Int.reduceNeg, reduceCtorEq, resV, resAll, ARes.ev, LV.flat, ite_true, ite_false, exists_eq_left', exists_eq_left, keyOf, implies_true, fillC, capOf]
    refine callK_of (g_added (p := ⟨1, 1, 1⟩) (c := shift ⟨0 - lo.a, 0 - lo.b, 0 - lo.c⟩ hi) hsd hso) ?_
    simp (disch := omega) only [f1, f2, f4, f5, f29, f30, f31, ↓SXd, SXu, slBounds, ↓sop, ↓aop, ↓reduceIte, LV.cells, AOp.dst, LV.I, LV.B, LV.U, LV.S, LV.nil, Nat.reduceEqDiff, Nat.reduceAdd, Nat.reduceMul, Nat.reduceSub, Nat.reduceLeDiff, Nat.reduceBEq, Nat.reduceDiv, Nat.reduceMod, Int.reduceToNat, Int.reduceLT, Int.reduceLE, Int.reduceAdd, Int.reduceSub, Int.reduceMul, Int.reduceEq, Int.reduceNeg, reduceCtorEq, resV, resAll, ARes.ev, LV.flat, ite_true, ite_false, exists_eq_left', exists_eq_left, keyOf, implies_true, fillC, capOf]
    rw [show (shift ⟨1, 1, 1⟩ (shift ⟨0 - lo.a, 0 - lo.b, 0 - lo.c⟩ hi)).a = hi.a - lo.a + 1 by unfold shift; simp only; omega, show (shift ⟨1, 1, 1⟩ (shift ⟨0 - lo.a, 0 - lo.b, 0 - lo.c⟩ hi)).b = hi.b - lo.b + 1 by unfold shift; simp only; omega, show (shift ⟨1, 1, 1⟩ (shift ⟨0 - lo.a, 0 - lo.b, 0 - lo.c⟩ hi)).c = hi.c - lo.c + 1 by unfold shift; simp only; omega]
    refine callK_of (g_moved (g := shift ⟨0 - lo.a, 0 - lo.b, 0 - lo.c⟩) (hT.pre (hpre.trans (Pre.app _ _))) (by omega) hSh hin fun N hp c hcc => ?_) ?_
    · exact g_crop_1 (Live.new.pre hp) (hc c hcc) hsl
    rw [← hpk]
    simp (disch := omega) only [f1, f2, f4, f5, f29, f30, f31, ↓SXd, SXu, slBounds, ↓sop, ↓aop, ↓reduceIte, LV.cells, AOp.dst, LV.I, LV.B, LV.U, LV.S, LV.nil, Nat.reduceEqDiff, Nat.reduceAdd, Nat.reduceMul, Nat.reduceSub, Nat.reduceLeDiff, Nat.reduceBEq, Nat.reduceDiv, Nat.reduceMod, Int.reduceToNat, Int.reduceLT, Int.reduceLE, Int.reduceAdd, Int.reduceSub, Int.reduceMul, Int.reduceEq, Int.reduceNeg, reduceCtorEq, resV, resAll, ARes.ev, LV.flat, ite_true, ite_false, exists_eq_left', exists_eq_left, keyOf, implies_true, fillC, capOf]
    refine memK_box b2.app (by simp) fun N3 k1 k2 k3 => ?_
    simp (disch := omega) only [f1, f2, f4, f5, f29, f30, f31, k2.cells, ↓SXd, SXu, slBounds, ↓sop, ↓aop, ↓reduceIte, LV.cells, AOp.dst, LV.I, LV.B, LV.U, LV.S, LV.nil, Nat.reduceEqDiff, Nat.reduceAdd, Nat.reduceMul, Nat.reduceSub, Nat.reduceLeDiff, Nat.reduceBEq, Nat.reduceDiv, Nat.reduceMod, Int.reduceToNat, Int.reduceLT, Int.reduceLE, Int.reduceAdd, Int.reduceSub, Int.reduceMul, Int.reduceEq, Int.reduceNeg, reduceCtorEq, resV, resAll, ARes.ev, LV.flat, ite_true, ite_false, exists_eq_left', exists_eq_left, keyOf, implies_true, fillC, capOf]
    refine cmp_keepL (pre_step (hpre.trans (Pre.app _ _)) (by omega) (j := 0) k1 k3) (t := M'.length + 1) (by omega) (live_step (Live.newj (j := 1) rfl) (by omega) k3) (triL_lo _) (by simp [rn, rn0, rn1])
end Go.Ab

/- The abstract code of some functions (written by a program of mine from the translation, by way of prepF). -/
namespace Go.Ab.C
open Go.Ab
def spec_l8Some : AFn :=
  ⟨1, 11, [.tmp 2],
    .seq (.ops [(none, .box 1 (.t 0)),
       (none, .mv 2 (.c (.B false)))])
    (.seq (.ops [(none, .loadN 3 4 (.t 1)),
        (none, .call (some 4) F.spec_l2Heap [(.t 3)]),
        (none, .mv 5 (.t 4)),
        (some (5, true), .fieldAddr 6 (.t 1) 3),
        (some (5, true), .load1 7 (.t 6)),
        (some (5, true), .len 8 (.t 7)),
        (some (5, true), .bin 9 .gtr (.t 8) (.c (.I 0))),
        (none, .pick 10 (.t 5) (.t 9) (.c (.B false))),
        (none, .mv 2 (.t 10))])
     (.ret))⟩
def spec_FirstForm : AFn :=
  ⟨1, 10, [.cellN 2 4, .tmp 3],
    .seq (.ops [(none, .box 1 (.t 0)),
       (none, .alloc 2 [(.I 0), (.I 0), (.I 0), .nil]),
       (none, .mv 3 (.c (.B false)))])
    (.seq (.seq (.ops [(none, .loadN 4 4 (.t 1)),
         (none, .call (some 5) F.spec_l8Some [(.t 4)]),
         (none, .un 6 .not (.t 5))])
      (.cond (.t 6) (.seq (.ops [(none, .build 7 [(.I 0), (.I 0), (.I 0), .nil] []),
           (none, .store 4 (.t 2) (.t 7)),
           (none, .mv 3 (.c (.B false)))])
        (.ret))
       (.skip)))
     (.seq (.ops [(none, .loadN 8 4 (.t 1)),
         (none, .call (some 9) F.spec_l8First [(.t 8)]),
         (none, .store 4 (.t 2) (.t 9)),
         (none, .mv 3 (.c (.B true)))])
      (.ret)))⟩
def spec_l8Symmetries : AFn :=
  ⟨1, 31, [.tmp 2],
    .seq (.ops [(none, .box 1 (.t 0)),
       (none, .mv 2 (.c .nil))])
    (.seq (.draw [⟨(none, .loadN 9 4 (.t 1)), [], []⟩,
        ⟨(none, .buildSl 7 0 1 [] []), [], []⟩,
        ⟨(none, .alloc 5 [(.I 0), (.I 0), (.I 0), .nil]), [], []⟩,
        ⟨(none, .call (some 8) F.spec_l8Turns []), [1, 2], [0]⟩,
        ⟨(none, .call (some 10) F.spec_l2Cropped [(.t 9)]), [1, 2], []⟩,
        ⟨(none, .mv 3 (.t 7)), [], []⟩,
        ⟨(none, .mv 4 (.t 8)), [], []⟩,
        ⟨(none, .store 4 (.t 5) (.t 10)), [], []⟩])
     (.seq (.seq (.ops [(none, .mv 6 (.c (.I 0)))])
       (.block 0 (.loop (.seq (.seq (.ops [(none, .mv 11 (.t 6)),
              (none, .mv 12 (.t 4)),
              (none, .len 13 (.t 12)),
              (none, .bin 14 .lss (.t 11) (.t 13))])
           (.cond (.t 14) (.skip)
            (.exit 0)))
          (.seq (.block 1 (.seq (.draw [⟨(none, .loadN 17 4 (.t 1)), [], []⟩,
                ⟨(none, .mv 18 (.t 4)), [], []⟩,
                ⟨(none, .mv 19 (.t 6)), [], []⟩,
                ⟨(none, .idxS 20 6 (.t 18) (.t 19)), [], []⟩,
                ⟨(none, .loadN 21 6 (.t 20)), [], []⟩,
                ⟨(none, .loadN 24 4 (.t 5)), [], []⟩,
                ⟨(none, .call (some 22) F.spec_l8Made [(.t 17), (.t 21)]), [], [5]⟩,
                ⟨(none, .call (some 23) F.spec_l2Cropped [(.t 22)]), [], [5]⟩,
                ⟨(none, .call (some 25) F.spec_l8Same [(.t 23), (.t 24)]), [], []⟩])
             (.cond (.t 25) (.ops [(none, .mv 26 (.t 3)),
                 (none, .mv 27 (.t 6)),
                 (none, .buildSl 28 1 1 [(.I 0)] [(0, 1, (.t 27))]),
                 (none, .append 29 1 8 (.t 26) (.t 28)),
                 (none, .mv 3 (.t 29))])
              (.skip))))
           (.ops [(none, .mv 15 (.t 6)),
              (none, .bin 16 .add (.t 15) (.c (.I 1))),
              (none, .mv 6 (.t 16))]))))))
      (.seq (.ops [(none, .mv 30 (.t 3)),
          (none, .mv 2 (.t 30))])
       (.ret))))⟩
def spec_SymmetriesOf : AFn :=
  ⟨1, 10, [.tmp 2, .tmp 3],
    .seq (.ops [(none, .box 1 (.t 0)),
       (none, .mv 2 (.c .nil)),
       (none, .mv 3 (.c (.B false)))])
    (.seq (.seq (.ops [(none, .loadN 4 4 (.t 1)),
         (none, .call (some 5) F.spec_l8Some [(.t 4)]),
         (none, .un 6 .not (.t 5))])
      (.cond (.t 6) (.seq (.ops [(none, .buildSl 7 0 1 [] []),
           (none, .mv 2 (.t 7)),
           (none, .mv 3 (.c (.B false)))])
        (.ret))
       (.skip)))
     (.seq (.ops [(none, .loadN 8 4 (.t 1)),
         (none, .call (some 9) F.spec_l8Symmetries [(.t 8)]),
         (none, .mv 2 (.t 9)),
         (none, .mv 3 (.c (.B true)))])
      (.ret)))⟩
def spec_PositionsOf : AFn :=
  ⟨1, 11, [.tmp 2, .tmp 3],
    .seq (.ops [(none, .box 1 (.t 0)),
       (none, .mv 2 (.c (.I 0))),
       (none, .mv 3 (.c (.B false)))])
    (.seq (.seq (.ops [(none, .loadN 4 4 (.t 1)),
         (none, .call (some 5) F.spec_l8Some [(.t 4)]),
         (none, .un 6 .not (.t 5))])
      (.cond (.t 6) (.seq (.ops [(none, .mv 2 (.c (.I 0))),
           (none, .mv 3 (.c (.B false)))])
        (.ret))
       (.skip)))
     (.seq (.ops [(none, .loadN 7 4 (.t 1)),
         (none, .call (some 8) F.spec_l8Symmetries [(.t 7)]),
         (none, .len 9 (.t 8)),
         (none, .bin 10 .quo (.c (.I 24)) (.t 9)),
         (none, .mv 2 (.t 10)),
         (none, .mv 3 (.c (.B true)))])
      (.ret)))⟩
end Go.Ab.C

/- That the program has this code. -/
namespace Go.Ab.K
open Go Go.Ab
theorem spec_l8Some : prepF Go.Proofs.Try.prog F.spec_l8Some = some C.spec_l8Some := by kernel_rfl
theorem spec_FirstForm : prepF Go.Proofs.Try.prog F.spec_FirstForm = some C.spec_FirstForm := by kernel_rfl
theorem spec_l8Symmetries : prepF Go.Proofs.Try.prog F.spec_l8Symmetries = some C.spec_l8Symmetries := by kernel_rfl
theorem spec_SymmetriesOf : prepF Go.Proofs.Try.prog F.spec_SymmetriesOf = some C.spec_SymmetriesOf := by kernel_rfl
theorem spec_PositionsOf : prepF Go.Proofs.Try.prog F.spec_PositionsOf = some C.spec_PositionsOf := by kernel_rfl
end Go.Ab.K

/- Contracts: the reference's statements on forms. -/
namespace Go.Ab
open Go
set_option linter.unusedSimpArgs false
set_option linter.unusedVariables false

/-- A valid heap with cubes. -/
def Filled (x y z : Int) (cs : List Cell) : Prop := HeapOK x y z cs ∧ 0 < cs.length
noncomputable instance (x y z : Int) (cs : List Cell) : Decidable (Filled x y z cs) := Classical.propDecidable _
noncomputable def formOf (x y z : Int) (cs : List Cell) : Option Hp := if Filled x y z cs then some (formHp x y z cs) else none
def symB (x y z : Int) (cs : List Cell) (T : Turn) : Bool := !lessHp (posHp x y z cs T) (cropHp cs) && !lessHp (cropHp cs) (posHp x y z cs T)
def symAt (x y z : Int) (cs : List Cell) (j : Nat) : Bool := match turns[j]? with
  | some T => symB x y z cs T
  | none => false
def symsK (x y z : Int) (cs : List Cell) (k : Nat) : List Int := ((List.range k).filter (symAt x y z cs)).map fun (j : Nat) => (j : Int)
theorem symsK_succ {x y z : Int} {cs : List Cell} {k : Nat} : symsK x y z cs (k + 1) = symsK x y z cs k ++ if symAt x y z cs k then [(k : Int)] else [] := by
  unfold symsK
  rw [List.range_succ, List.filter_append, List.map_append, List.filter_cons, List.filter_nil]
  split <;> rfl
theorem symsK_len {x y z : Int} {cs : List Cell} {k : Nat} : (symsK x y z cs k).length ≤ k := by
  unfold symsK
  have := List.length_filter_le (symAt x y z cs) (List.range k)
  simp at this ⊢; exact this
noncomputable def symsOf (x y z : Int) (cs : List Cell) : Option (List Int) := if Filled x y z cs then some (symsK x y z cs 24) else none
theorem formHp_len {x y z : Int} {cs : List Cell} (hH : HeapOK x y z cs) : (formHp x y z cs).cs.length ≤ 64 := bestH_len (by rw [cropHp_len]; exact hH.len) fun g hg => by
  obtain ⟨T, _, rfl⟩ := List.mem_map.1 hg
  unfold posHp; rw [cropHp_len]; exact (turnHp_ok hH T).len

theorem h_l8Some {x y z : Int} {t o : Nat} {cs : List Cell} {M : Mem} (h : Tri M t o cs) (hn : cs.length ≤ 1000000000) :
    CallsTo PG F.spec_l8Some [.agg [.I x, .I y, .I z, .ref t o cs.length]] M (.B (decide (Filled x y z cs))) M := by
  refine calls_run K.spec_l8Some rfl ?_
  simp (disch := omega) only [C.spec_l8Some, ↓SXd, SXu, slBounds, ↓sop, ↓aop, ↓reduceIte, LV.cells, AOp.dst, LV.I, LV.B, LV.U, LV.S, LV.nil, Nat.reduceEqDiff, Nat.reduceAdd, Nat.reduceMul, Nat.reduceSub, Nat.reduceLeDiff, Nat.reduceBEq, Nat.reduceDiv, Nat.reduceMod, Int.reduceToNat, Int.reduceLT, Int.reduceLE, Int.reduceAdd, Int.reduceSub, Int.reduceMul, Int.reduceEq, Int.reduceNeg, reduceCtorEq, resV, resAll, ARes.ev, LV.flat, ite_true, ite_false, exists_eq_left', exists_eq_left, keyOf, implies_true, fillC, capOf]
  refine callK_of (h_l2Heap h.app hn) ?_
  simp (disch := omega) only [↓SXd, SXu, slBounds, ↓sop, ↓aop, ↓reduceIte, LV.cells, AOp.dst, LV.I, LV.B, LV.U, LV.S, LV.nil, Nat.reduceEqDiff, Nat.reduceAdd, Nat.reduceMul, Nat.reduceSub, Nat.reduceLeDiff, Nat.reduceBEq, Nat.reduceDiv, Nat.reduceMod, Int.reduceToNat, Int.reduceLT, Int.reduceLE, Int.reduceAdd, Int.reduceSub, Int.reduceMul, Int.reduceEq, Int.reduceNeg, reduceCtorEq, resV, resAll, ARes.ev, LV.flat, ite_true, ite_false, exists_eq_left', exists_eq_left, keyOf, implies_true, fillC, capOf]
  by_cases hH : HeapOK x y z cs
  · simp (disch := omega) only [hH, ↓SXd, SXu, slBounds, ↓sop, ↓aop, ↓reduceIte, LV.cells, AOp.dst, LV.I, LV.B, LV.U, LV.S, LV.nil, Nat.reduceEqDiff, Nat.reduceAdd, Nat.reduceMul, Nat.reduceSub, Nat.reduceLeDiff, Nat.reduceBEq, Nat.reduceDiv, Nat.reduceMod, Int.reduceToNat, Int.reduceLT, Int.reduceLE, Int.reduceAdd, Int.reduceSub, Int.reduceMul, Int.reduceEq, Int.reduceNeg, reduceCtorEq, resV, resAll, ARes.ev, LV.flat, ite_true, ite_false, exists_eq_left', exists_eq_left, keyOf, implies_true, fillC, capOf]
    rw [show decide ((0 : Int) < (cs.length : Nat)) = decide (Filled x y z cs) from decide_eq_decide.2 ⟨fun h => ⟨hH, by omega⟩, fun h => by have := h.2; omega⟩]
    exact cmp_drop rfl
  · simp (disch := omega) only [hH, ↓SXd, SXu, slBounds, ↓sop, ↓aop, ↓reduceIte, LV.cells, AOp.dst, LV.I, LV.B, LV.U, LV.S, LV.nil, Nat.reduceEqDiff, Nat.reduceAdd, Nat.reduceMul, Nat.reduceSub, Nat.reduceLeDiff, Nat.reduceBEq, Nat.reduceDiv, Nat.reduceMod, Int.reduceToNat, Int.reduceLT, Int.reduceLE, Int.reduceAdd, Int.reduceSub, Int.reduceMul, Int.reduceEq, Int.reduceNeg, reduceCtorEq, resV, resAll, ARes.ev, LV.flat, ite_true, ite_false, exists_eq_left', exists_eq_left, keyOf, implies_true, fillC, capOf]
    rw [show decide (Filled x y z cs) = false from decide_eq_false fun h => hH h.1]
    exact cmp_drop rfl

theorem h_sFirstForm {x y z : Int} {t : Nat} {w : Bool} {cs : List Cell} {M : Mem} (h : Live M t (.row (triL cs) w 3)) (hn : cs.length ≤ 1000000000) :
    CallsR PG F.spec_FirstForm [.agg [.I x, .I y, .I z, .ref t 0 cs.length]] M (HeapRes M (formOf x y z cs) []) := by
  refine callsR_run K.spec_FirstForm rfl ?_
  simp (disch := omega) only [C.spec_FirstForm, ↓SXd, SXu, slBounds, ↓sop, ↓aop, ↓reduceIte, LV.cells, AOp.dst, LV.I, LV.B, LV.U, LV.S, LV.nil, Nat.reduceEqDiff, Nat.reduceAdd, Nat.reduceMul, Nat.reduceSub, Nat.reduceLeDiff, Nat.reduceBEq, Nat.reduceDiv, Nat.reduceMod, Int.reduceToNat, Int.reduceLT, Int.reduceLE, Int.reduceAdd, Int.reduceSub, Int.reduceMul, Int.reduceEq, Int.reduceNeg, reduceCtorEq, resV, resAll, ARes.ev, LV.flat, ite_true, ite_false, exists_eq_left', exists_eq_left, keyOf, implies_true, fillC, capOf]
  refine callK_of (h_l8Some (Has.app h.has) hn) ?_
  simp (disch := omega) only [↓SXd, SXu, slBounds, ↓sop, ↓aop, ↓reduceIte, LV.cells, AOp.dst, LV.I, LV.B, LV.U, LV.S, LV.nil, Nat.reduceEqDiff, Nat.reduceAdd, Nat.reduceMul, Nat.reduceSub, Nat.reduceLeDiff, Nat.reduceBEq, Nat.reduceDiv, Nat.reduceMod, Int.reduceToNat, Int.reduceLT, Int.reduceLE, Int.reduceAdd, Int.reduceSub, Int.reduceMul, Int.reduceEq, Int.reduceNeg, reduceCtorEq, resV, resAll, ARes.ev, LV.flat, ite_true, ite_false, exists_eq_left', exists_eq_left, keyOf, implies_true, fillC, capOf]
  unfold formOf
  by_cases hF : Filled x y z cs
  · rw [if_pos hF]
    simp (disch := omega) only [hF, ↓SXd, SXu, slBounds, ↓sop, ↓aop, ↓reduceIte, LV.cells, AOp.dst, LV.I, LV.B, LV.U, LV.S, LV.nil, Nat.reduceEqDiff, Nat.reduceAdd, Nat.reduceMul, Nat.reduceSub, Nat.reduceLeDiff, Nat.reduceBEq, Nat.reduceDiv, Nat.reduceMod, Int.reduceToNat, Int.reduceLT, Int.reduceLE, Int.reduceAdd, Int.reduceSub, Int.reduceMul, Int.reduceEq, Int.reduceNeg, reduceCtorEq, resV, resAll, ARes.ev, LV.flat, ite_true, ite_false, exists_eq_left', exists_eq_left, keyOf, implies_true, fillC, capOf]
    have hff := h_l8First (Live.app (L := [some (.row [.I x, .I y, .I z, .ref t 0 cs.length] true 0), some (.row [.I 0, .I 0, .I 0, .nil] true 0)]) h) hF.1 hF.2
    generalize formHp x y z cs = f at hff ⊢
    refine callH_of hff ?_
    intro tn N2 htn hp2 hnr
    simp (disch := omega) only [↓SXd, SXu, slBounds, ↓sop, ↓aop, ↓reduceIte, LV.cells, AOp.dst, LV.I, LV.B, LV.U, LV.S, LV.nil, Nat.reduceEqDiff, Nat.reduceAdd, Nat.reduceMul, Nat.reduceSub, Nat.reduceLeDiff, Nat.reduceBEq, Nat.reduceDiv, Nat.reduceMod, Int.reduceToNat, Int.reduceLT, Int.reduceLE, Int.reduceAdd, Int.reduceSub, Int.reduceMul, Int.reduceEq, Int.reduceNeg, reduceCtorEq, resV, resAll, ARes.ev, LV.flat, ite_true, ite_false, exists_eq_left', exists_eq_left, keyOf, implies_true, fillC, capOf]
    simp only [List.length_append, List.length_cons, List.length_nil] at htn
    have hN := hp2.1
    refine memK_box ((Live.newj (j := 1) rfl).pre hp2) (by simp) fun N3 k1 k2 k3 => ?_
    simp (disch := omega) only [k2.cells, ↓SXd, SXu, slBounds, ↓sop, ↓aop, ↓reduceIte, LV.cells, AOp.dst, LV.I, LV.B, LV.U, LV.S, LV.nil, Nat.reduceEqDiff, Nat.reduceAdd, Nat.reduceMul, Nat.reduceSub, Nat.reduceLeDiff, Nat.reduceBEq, Nat.reduceDiv, Nat.reduceMod, Int.reduceToNat, Int.reduceLT, Int.reduceLE, Int.reduceAdd, Int.reduceSub, Int.reduceMul, Int.reduceEq, Int.reduceNeg, reduceCtorEq, resV, resAll, ARes.ev, LV.flat, ite_true, ite_false, exists_eq_left', exists_eq_left, keyOf, implies_true, fillC, capOf]
    exact ⟨_, rfl, SlC.of (live_step hnr (by omega) k3), Newer.of (by omega), pre_step ((Pre.app _ _).trans hp2) (by omega) (j := 0) k1 k3⟩
  · rw [if_neg hF]
    simp (disch := omega) only [hF, fillC, splice, ↓SXd, SXu, slBounds, ↓sop, ↓aop, ↓reduceIte, LV.cells, AOp.dst, LV.I, LV.B, LV.U, LV.S, LV.nil, Nat.reduceEqDiff, Nat.reduceAdd, Nat.reduceMul, Nat.reduceSub, Nat.reduceLeDiff, Nat.reduceBEq, Nat.reduceDiv, Nat.reduceMod, Int.reduceToNat, Int.reduceLT, Int.reduceLE, Int.reduceAdd, Int.reduceSub, Int.reduceMul, Int.reduceEq, Int.reduceNeg, reduceCtorEq, resV, resAll, ARes.ev, LV.flat, ite_true, ite_false, exists_eq_left', exists_eq_left, keyOf, implies_true, fillC, capOf]
    exact ⟨_, rfl, SlC.nil, Newer.nil, Pre.app _ _⟩

theorem h_l8Symmetries {x y z : Int} {t : Nat} {w : Bool} {cs : List Cell} {M : Mem} (h : Live M t (.row (triL cs) w 3)) (hH : HeapOK x y z cs) (h0 : 0 < cs.length) :
    CallsTo PG F.spec_l8Symmetries [.agg [.I x, .I y, .I z, .ref t 0 cs.length]] M (.ref M.length 0 (symsK x y z cs 24).length) (M ++ [some (.row (intL (symsK x y z cs 24)) true 1)]) := by
  have ht := h.lt
  have hlen := hH.len
  have h24 := turns_len
  refine calls_run K.spec_l8Symmetries rfl ?_
  simp (disch := omega) only [C.spec_l8Symmetries, ↓SXd, SXu, slBounds, ↓sop, ↓aop, ↓reduceIte, LV.cells, AOp.dst, LV.I, LV.B, LV.U, LV.S, LV.nil, Nat.reduceEqDiff, Nat.reduceAdd, Nat.reduceMul, Nat.reduceSub, Nat.reduceLeDiff, Nat.reduceBEq, Nat.reduceDiv, Nat.reduceMod, Int.reduceToNat, Int.reduceLT, Int.reduceLE, Int.reduceAdd, Int.reduceSub, Int.reduceMul, Int.reduceEq, Int.reduceNeg, reduceCtorEq, resV, resAll, ARes.ev, LV.flat, ite_true, ite_false, exists_eq_left', exists_eq_left, keyOf, implies_true, fillC, capOf]
  refine callK_of (h_l8Turns) ?_
  simp (disch := omega) only [↓SXd, SXu, slBounds, ↓sop, ↓aop, ↓reduceIte, LV.cells, AOp.dst, LV.I, LV.B, LV.U, LV.S, LV.nil, Nat.reduceEqDiff, Nat.reduceAdd, Nat.reduceMul, Nat.reduceSub, Nat.reduceLeDiff, Nat.reduceBEq, Nat.reduceDiv, Nat.reduceMod, Int.reduceToNat, Int.reduceLT, Int.reduceLE, Int.reduceAdd, Int.reduceSub, Int.reduceMul, Int.reduceEq, Int.reduceNeg, reduceCtorEq, resV, resAll, ARes.ev, LV.flat, ite_true, ite_false, exists_eq_left', exists_eq_left, keyOf, implies_true, fillC, capOf]
  refine callK_of (h_l2Cropped (Has.app h.has) (by omega) h0 (cells_small hH)) ?_
  simp (disch := omega) only [splice, ↓SXd, SXu, slBounds, ↓sop, ↓aop, ↓reduceIte, LV.cells, AOp.dst, LV.I, LV.B, LV.U, LV.S, LV.nil, Nat.reduceEqDiff, Nat.reduceAdd, Nat.reduceMul, Nat.reduceSub, Nat.reduceLeDiff, Nat.reduceBEq, Nat.reduceDiv, Nat.reduceMod, Int.reduceToNat, Int.reduceLT, Int.reduceLE, Int.reduceAdd, Int.reduceSub, Int.reduceMul, Int.reduceEq, Int.reduceNeg, reduceCtorEq, resV, resAll, ARes.ev, LV.flat, ite_true, ite_false, exists_eq_left', exists_eq_left, keyOf, implies_true, fillC, capOf]
  have hP : (cropHp cs).cs.length ≤ 64 := by rw [cropHp_len]; exact hlen
  have hsB : ∀ T, symB x y z cs T = (!lessHp (posHp x y z cs T) (cropHp cs) && !lessHp (cropHp cs) (posHp x y z cs T)) := fun _ => rfl
  have hsA : ∀ k (hk : k < turns.length), symAt x y z cs k = symB x y z cs turns[k] := fun k hk => by unfold symAt; rw [List.getElem?_eq_getElem hk]
  generalize cropHp cs = C at hP hsB ⊢
  refine ev_loop (fun m fr M' => ∃ k u : Nat, k + m = 24 ∧ Pre M M' ∧ M.length < u ∧ u ≠ M.length + 4 ∧ Live M' M.length (.row [.I x, .I y, .I z, .ref t 0 cs.length] true 0) ∧ Live M' (M.length + 3) (.row (sixL turns) true 6) ∧
    Live M' (M.length + 2) (.row [.I C.x, .I C.y, .I C.z, .ref (M.length + 4) 0 C.cs.length] true 0) ∧ Live M' (M.length + 4) (.row (triL C.cs) true 3) ∧ Live M' u (.row (intL (symsK x y z cs k)) true 1) ∧
    fr 1 = .ptr M.length 0 ∧ fr 3 = .ref u 0 (symsK x y z cs k).length ∧ fr 4 = .ref (M.length + 3) 0 24 ∧ fr 5 = .ptr (M.length + 2) 0 ∧ fr 6 = .I k) 24
    ⟨0, M.length + 1, rfl, Pre.app _ _, by omega, by omega, Live.new, Live.newj rfl, Live.newj rfl, Live.newj rfl, Live.newj rfl, rfl, rfl, by rw [← h24]; rfl, rfl, rfl⟩ ?_
  rintro m fr M' ⟨k, u, hk, hpre, hu, hu4, b1, b4, b5, bc, bu, f1, f3, f4, f5, f6⟩
  simp (disch := omega) only [f1, f3, f4, f5, f6, ↓SXd, SXu, slBounds, ↓sop, ↓aop, ↓reduceIte, LV.cells, AOp.dst, LV.I, LV.B, LV.U, LV.S, LV.nil, Nat.reduceEqDiff, Nat.reduceAdd, Nat.reduceMul, Nat.reduceSub, Nat.reduceLeDiff, Nat.reduceBEq, Nat.reduceDiv, Nat.reduceMod, Int.reduceToNat, Int.reduceLT, Int.reduceLE, Int.reduceAdd, Int.reduceSub, Int.reduceMul, Int.reduceEq, Int.reduceNeg, reduceCtorEq, resV, resAll, ARes.ev, LV.flat, ite_true, ite_false, exists_eq_left', exists_eq_left, keyOf, implies_true, fillC, capOf]
  refine condC_dec (fun hlt => ?_) (fun hlt => ?_)
  · have hk24 : k < turns.length := by omega
    have hok := turns_ok _ (List.getElem_mem hk24)
    have hsx := b4.six hk24
    have hss := symsK_succ (x := x) (y := y) (z := z) (cs := cs) (k := k)
    have hsl := symsK_len (x := x) (y := y) (z := z) (cs := cs) (k := k)
    rw [hsA k hk24, hsB] at hss
    generalize turns[k] = T at hok hsx hss
    have hH' := turnHp_ok hH T
    have hlen' := hH'.len
    have hl1 := bc.lt
    simp (disch := omega) only [f1, f3, f4, f5, f6, b1.cells, b5.cells, hsx, Turn.row, Cell.row, List.cons_append, List.nil_append, List.getElem?_append_left, ↓SXd, SXu, slBounds, ↓sop, ↓aop, ↓reduceIte, LV.cells, AOp.dst, LV.I, LV.B, LV.U, LV.S, LV.nil, Nat.reduceEqDiff, Nat.reduceAdd, Nat.reduceMul, Nat.reduceSub, Nat.reduceLeDiff, Nat.reduceBEq, Nat.reduceDiv, Nat.reduceMod, Int.reduceToNat, Int.reduceLT, Int.reduceLE, Int.reduceAdd, Int.reduceSub, Int.reduceMul, Int.reduceEq, Int.reduceNeg, reduceCtorEq, resV, resAll, ARes.ev, LV.flat, ite_true, ite_false, exists_eq_left', exists_eq_left, keyOf, implies_true, fillC, capOf]
    refine callK_of (h_l8Made (h.pre hpre) hH hok) ?_
    simp (disch := omega) only [f1, f3, f4, f5, f6, ↓SXd, SXu, slBounds, ↓sop, ↓aop, ↓reduceIte, LV.cells, AOp.dst, LV.I, LV.B, LV.U, LV.S, LV.nil, Nat.reduceEqDiff, Nat.reduceAdd, Nat.reduceMul, Nat.reduceSub, Nat.reduceLeDiff, Nat.reduceBEq, Nat.reduceDiv, Nat.reduceMod, Int.reduceToNat, Int.reduceLT, Int.reduceLE, Int.reduceAdd, Int.reduceSub, Int.reduceMul, Int.reduceEq, Int.reduceNeg, reduceCtorEq, resV, resAll, ARes.ev, LV.flat, ite_true, ite_false, exists_eq_left', exists_eq_left, keyOf, implies_true, fillC, capOf]
    refine callK_of (h_l2Cropped (Live.newj (M := M') (j := 0) (b := .row (triL (turnHp x y z T cs).cs) true 3) rfl).has (by omega) (turnHp_pos hH h0 T) (cells_small hH')) ?_
    simp (disch := omega) only [f1, f3, f4, f5, f6, splice, List.getElem?_append_left, ↓SXd, SXu, slBounds, ↓sop, ↓aop, ↓reduceIte, LV.cells, AOp.dst, LV.I, LV.B, LV.U, LV.S, LV.nil, Nat.reduceEqDiff, Nat.reduceAdd, Nat.reduceMul, Nat.reduceSub, Nat.reduceLeDiff, Nat.reduceBEq, Nat.reduceDiv, Nat.reduceMod, Int.reduceToNat, Int.reduceLT, Int.reduceLE, Int.reduceAdd, Int.reduceSub, Int.reduceMul, Int.reduceEq, Int.reduceNeg, reduceCtorEq, resV, resAll, ARes.ev, LV.flat, ite_true, ite_false, exists_eq_left', exists_eq_left, keyOf, implies_true, fillC, capOf]
    rw [show posHp x y z cs T = cropHp (turnHp x y z T cs).cs from rfl] at hss
    have hpl : (cropHp (turnHp x y z T cs).cs).cs.length ≤ 64 := by rw [cropHp_len]; exact hlen'
    generalize cropHp (turnHp x y z T cs).cs = P at hss hpl ⊢
    have eP : Live (M' ++ [some (.row (triL (turnHp x y z T cs).cs) true 3), some (.row (triL P.cs) true 3)]) (M'.length + 1) (.row (triL P.cs) true 3) := Live.newj rfl
    have hp1 : Pre M' (M' ++ [some (.row (triL (turnHp x y z T cs).cs) true 3), some (.row (triL P.cs) true 3)]) := Pre.app _ _
    generalize M' ++ [some (.row (triL (turnHp x y z T cs).cs) true 3), some (.row (triL P.cs) true 3)] = N at eP hp1 ⊢
    have hN := hp1.1
    have hcall := h_l8Same (g := P) (h := C) eP.has (bc.pre hp1).has (by omega) (by omega)
    generalize (!lessHp P C && !lessHp C P) = B at hss hcall
    refine callK_of (hcall) ?_
    simp (disch := omega) only [f1, f3, f4, f5, f6, ↓SXd, SXu, slBounds, ↓sop, ↓aop, ↓reduceIte, LV.cells, AOp.dst, LV.I, LV.B, LV.U, LV.S, LV.nil, Nat.reduceEqDiff, Nat.reduceAdd, Nat.reduceMul, Nat.reduceSub, Nat.reduceLeDiff, Nat.reduceBEq, Nat.reduceDiv, Nat.reduceMod, Int.reduceToNat, Int.reduceLT, Int.reduceLE, Int.reduceAdd, Int.reduceSub, Int.reduceMul, Int.reduceEq, Int.reduceNeg, reduceCtorEq, resV, resAll, ARes.ev, LV.flat, ite_true, ite_false, exists_eq_left', exists_eq_left, keyOf, implies_true, fillC, capOf]
    have huN := bu.lt
    cases B with
    | true =>
      rw [if_pos rfl] at hss
      simp (disch := omega) only [f1, f3, f4, f5, f6, ↓SXd, SXu, slBounds, ↓sop, ↓aop, ↓reduceIte, LV.cells, AOp.dst, LV.I, LV.B, LV.U, LV.S, LV.nil, Nat.reduceEqDiff, Nat.reduceAdd, Nat.reduceMul, Nat.reduceSub, Nat.reduceLeDiff, Nat.reduceBEq, Nat.reduceDiv, Nat.reduceMod, Int.reduceToNat, Int.reduceLT, Int.reduceLE, Int.reduceAdd, Int.reduceSub, Int.reduceMul, Int.reduceEq, Int.reduceNeg, reduceCtorEq, resV, resAll, ARes.ev, LV.flat, ite_true, ite_false, exists_eq_left', exists_eq_left, keyOf, implies_true, fillC, capOf]
      refine appendK_int (bu.pre hp1) (by omega) fun N3 k1 k2 k3 => ?_
      simp (disch := omega) only [f1, f3, f4, f5, f6, ↓SXd, SXu, slBounds, ↓sop, ↓aop, ↓reduceIte, LV.cells, AOp.dst, LV.I, LV.B, LV.U, LV.S, LV.nil, Nat.reduceEqDiff, Nat.reduceAdd, Nat.reduceMul, Nat.reduceSub, Nat.reduceLeDiff, Nat.reduceBEq, Nat.reduceDiv, Nat.reduceMod, Int.reduceToNat, Int.reduceLT, Int.reduceLE, Int.reduceAdd, Int.reduceSub, Int.reduceMul, Int.reduceEq, Int.reduceNeg, reduceCtorEq, resV, resAll, ARes.ev, LV.flat, ite_true, ite_false, exists_eq_left', exists_eq_left, keyOf, implies_true, fillC, capOf]
      rw [← hss] at k2 ⊢
      exact ⟨m - 1, by omega, k + 1, N.length + 1, by omega, pre_step (hpre.trans hp1) (by omega) k1 k3, by have := hpre.1; omega, by omega, live_step (b1.pre hp1) (by omega) k3, live_step (b4.pre hp1) (b4.ne_esz bu (by decide)) k3, live_step (b5.pre hp1) (b5.ne_esz bu (by decide)) k3, live_step (bc.pre hp1) (by omega) k3, k2, f1, rfl, f4, f5, eqI (natI _)⟩
    | false =>
      rw [if_neg (by simp), List.append_nil] at hss
      simp (disch := omega) only [f1, f3, f4, f5, f6, ↓SXd, SXu, slBounds, ↓sop, ↓aop, ↓reduceIte, LV.cells, AOp.dst, LV.I, LV.B, LV.U, LV.S, LV.nil, Nat.reduceEqDiff, Nat.reduceAdd, Nat.reduceMul, Nat.reduceSub, Nat.reduceLeDiff, Nat.reduceBEq, Nat.reduceDiv, Nat.reduceMod, Int.reduceToNat, Int.reduceLT, Int.reduceLE, Int.reduceAdd, Int.reduceSub, Int.reduceMul, Int.reduceEq, Int.reduceNeg, reduceCtorEq, resV, resAll, ARes.ev, LV.flat, ite_true, ite_false, exists_eq_left', exists_eq_left, keyOf, implies_true, fillC, capOf]
      rw [← hss] at bu f3
      exact ⟨m - 1, by omega, k + 1, u, by omega, hpre.trans hp1, hu, hu4, b1.pre hp1, b4.pre hp1, b5.pre hp1, bc.pre hp1, bu.pre hp1, f1, f3, f4, f5, eqI (natI _)⟩
  · simp (disch := omega) only [f1, f3, f4, f5, f6, ↓SXd, SXu, slBounds, ↓sop, ↓aop, ↓reduceIte, LV.cells, AOp.dst, LV.I, LV.B, LV.U, LV.S, LV.nil, Nat.reduceEqDiff, Nat.reduceAdd, Nat.reduceMul, Nat.reduceSub, Nat.reduceLeDiff, Nat.reduceBEq, Nat.reduceDiv, Nat.reduceMod, Int.reduceToNat, Int.reduceLT, Int.reduceLE, Int.reduceAdd, Int.reduceSub, Int.reduceMul, Int.reduceEq, Int.reduceNeg, reduceCtorEq, resV, resAll, ARes.ev, LV.flat, ite_true, ite_false, exists_eq_left', exists_eq_left, keyOf, implies_true, fillC, capOf]
    have : k = 24 := by omega
    subst this
    exact cmp_keepL hpre (by omega) bu (intL_lo _) (by simp [rn, rn0, rn1])

theorem h_sSymmetriesOf {x y z : Int} {t : Nat} {w : Bool} {cs : List Cell} {M : Mem} (h : Live M t (.row (triL cs) w 3)) (hn : cs.length ≤ 1000000000) :
    CallsR PG F.spec_SymmetriesOf [.agg [.I x, .I y, .I z, .ref t 0 cs.length]] M (IntsRes M (symsOf x y z cs)) := by
  refine callsR_run K.spec_SymmetriesOf rfl ?_
  simp (disch := omega) only [C.spec_SymmetriesOf, ↓SXd, SXu, slBounds, ↓sop, ↓aop, ↓reduceIte, LV.cells, AOp.dst, LV.I, LV.B, LV.U, LV.S, LV.nil, Nat.reduceEqDiff, Nat.reduceAdd, Nat.reduceMul, Nat.reduceSub, Nat.reduceLeDiff, Nat.reduceBEq, Nat.reduceDiv, Nat.reduceMod, Int.reduceToNat, Int.reduceLT, Int.reduceLE, Int.reduceAdd, Int.reduceSub, Int.reduceMul, Int.reduceEq, Int.reduceNeg, reduceCtorEq, resV, resAll, ARes.ev, LV.flat, ite_true, ite_false, exists_eq_left', exists_eq_left, keyOf, implies_true, fillC, capOf]
  refine callK_of (h_l8Some (Has.app h.has) hn) ?_
  simp (disch := omega) only [↓SXd, SXu, slBounds, ↓sop, ↓aop, ↓reduceIte, LV.cells, AOp.dst, LV.I, LV.B, LV.U, LV.S, LV.nil, Nat.reduceEqDiff, Nat.reduceAdd, Nat.reduceMul, Nat.reduceSub, Nat.reduceLeDiff, Nat.reduceBEq, Nat.reduceDiv, Nat.reduceMod, Int.reduceToNat, Int.reduceLT, Int.reduceLE, Int.reduceAdd, Int.reduceSub, Int.reduceMul, Int.reduceEq, Int.reduceNeg, reduceCtorEq, resV, resAll, ARes.ev, LV.flat, ite_true, ite_false, exists_eq_left', exists_eq_left, keyOf, implies_true, fillC, capOf]
  unfold symsOf
  by_cases hF : Filled x y z cs
  · rw [if_pos hF]
    simp (disch := omega) only [hF, ↓SXd, SXu, slBounds, ↓sop, ↓aop, ↓reduceIte, LV.cells, AOp.dst, LV.I, LV.B, LV.U, LV.S, LV.nil, Nat.reduceEqDiff, Nat.reduceAdd, Nat.reduceMul, Nat.reduceSub, Nat.reduceLeDiff, Nat.reduceBEq, Nat.reduceDiv, Nat.reduceMod, Int.reduceToNat, Int.reduceLT, Int.reduceLE, Int.reduceAdd, Int.reduceSub, Int.reduceMul, Int.reduceEq, Int.reduceNeg, reduceCtorEq, resV, resAll, ARes.ev, LV.flat, ite_true, ite_false, exists_eq_left', exists_eq_left, keyOf, implies_true, fillC, capOf]
    have hff := h_l8Symmetries (Live.app (L := [some (.row [.I x, .I y, .I z, .ref t 0 cs.length] true 0)]) h) hF.1 hF.2
    generalize symsK x y z cs 24 = l at hff ⊢
    refine callN_of hff ?_
    intro tn N2 htn hp2 hnr
    simp (disch := omega) only [↓SXd, SXu, slBounds, ↓sop, ↓aop, ↓reduceIte, LV.cells, AOp.dst, LV.I, LV.B, LV.U, LV.S, LV.nil, Nat.reduceEqDiff, Nat.reduceAdd, Nat.reduceMul, Nat.reduceSub, Nat.reduceLeDiff, Nat.reduceBEq, Nat.reduceDiv, Nat.reduceMod, Int.reduceToNat, Int.reduceLT, Int.reduceLE, Int.reduceAdd, Int.reduceSub, Int.reduceMul, Int.reduceEq, Int.reduceNeg, reduceCtorEq, resV, resAll, ARes.ev, LV.flat, ite_true, ite_false, exists_eq_left', exists_eq_left, keyOf, implies_true, fillC, capOf]
    simp only [List.length_append, List.length_cons, List.length_nil] at htn
    exact ⟨_, rfl, SlI.of hnr, Newer.of (by omega), (Pre.app _ _).trans hp2⟩
  · rw [if_neg hF]
    simp (disch := omega) only [hF, ↓SXd, SXu, slBounds, ↓sop, ↓aop, ↓reduceIte, LV.cells, AOp.dst, LV.I, LV.B, LV.U, LV.S, LV.nil, Nat.reduceEqDiff, Nat.reduceAdd, Nat.reduceMul, Nat.reduceSub, Nat.reduceLeDiff, Nat.reduceBEq, Nat.reduceDiv, Nat.reduceMod, Int.reduceToNat, Int.reduceLT, Int.reduceLE, Int.reduceAdd, Int.reduceSub, Int.reduceMul, Int.reduceEq, Int.reduceNeg, reduceCtorEq, resV, resAll, ARes.ev, LV.flat, ite_true, ite_false, exists_eq_left', exists_eq_left, keyOf, implies_true, fillC, capOf]
    exact ⟨_, rfl, SlI.of (t := M.length + 1) (l := []) (Live.newj (j := 1) rfl), Newer.of (by omega), Pre.app _ _⟩

noncomputable def posOf (x y z : Int) (cs : List Cell) : Int := if Filled x y z cs then ((24 : Int).tdiv ((symsK x y z cs 24).length : Nat)) else 0
theorem turn0 {x y z : Int} {cs : List Cell} (hH : HeapOK x y z cs) : ∃ T, turns[0]? = some T ∧ turnHp x y z T cs = ⟨x, y, z, cs⟩ := by
  refine ⟨⟨⟨0, 1, 2⟩, ⟨0, 0, 0⟩⟩, by decide +kernel, ?_⟩
  have hm : cs.map (mapT x y z ⟨⟨0, 1, 2⟩, ⟨0, 0, 0⟩⟩) = cs := by
    rw [show mapT x y z ⟨⟨0, 1, 2⟩, ⟨0, 0, 0⟩⟩ = id from rfl, List.map_id]
  unfold turnHp
  rw [hm]
  show (⟨x, y, z, pick x y z fun d => decide (d ∈ cs)⟩ : Hp) = _
  rw [← hH.pick]
theorem syms_pos {x y z : Int} {cs : List Cell} (hH : HeapOK x y z cs) : 0 < (symsK x y z cs 24).length := by
  obtain ⟨T, h1, h2⟩ := turn0 hH
  have : (0 : Int) ∈ symsK x y z cs 24 := by
    unfold symsK
    refine List.mem_map.2 ⟨0, List.mem_filter.2 ⟨by simp, ?_⟩, rfl⟩
    unfold symAt
    rw [h1]
    show symB x y z cs T = true
    unfold symB posHp
    rw [h2, lessHp_irr]; rfl
  exact List.length_pos_of_mem this
theorem h_sPositionsOf {x y z : Int} {t : Nat} {w : Bool} {cs : List Cell} {M : Mem} (h : Live M t (.row (triL cs) w 3)) (hn : cs.length ≤ 1000000000) :
    CallsTo PG F.spec_PositionsOf [.agg [.I x, .I y, .I z, .ref t 0 cs.length]] M (.tup [.I (posOf x y z cs), .B (decide (Filled x y z cs))]) M := by
  refine calls_run K.spec_PositionsOf rfl ?_
  simp (disch := omega) only [C.spec_PositionsOf, ↓SXd, SXu, slBounds, ↓sop, ↓aop, ↓reduceIte, LV.cells, AOp.dst, LV.I, LV.B, LV.U, LV.S, LV.nil, Nat.reduceEqDiff, Nat.reduceAdd, Nat.reduceMul, Nat.reduceSub, Nat.reduceLeDiff, Nat.reduceBEq, Nat.reduceDiv, Nat.reduceMod, Int.reduceToNat, Int.reduceLT, Int.reduceLE, Int.reduceAdd, Int.reduceSub, Int.reduceMul, Int.reduceEq, Int.reduceNeg, reduceCtorEq, resV, resAll, ARes.ev, LV.flat, ite_true, ite_false, exists_eq_left', exists_eq_left, keyOf, implies_true, fillC, capOf]
  refine callK_of (h_l8Some (Has.app h.has) hn) ?_
  simp (disch := omega) only [↓SXd, SXu, slBounds, ↓sop, ↓aop, ↓reduceIte, LV.cells, AOp.dst, LV.I, LV.B, LV.U, LV.S, LV.nil, Nat.reduceEqDiff, Nat.reduceAdd, Nat.reduceMul, Nat.reduceSub, Nat.reduceLeDiff, Nat.reduceBEq, Nat.reduceDiv, Nat.reduceMod, Int.reduceToNat, Int.reduceLT, Int.reduceLE, Int.reduceAdd, Int.reduceSub, Int.reduceMul, Int.reduceEq, Int.reduceNeg, reduceCtorEq, resV, resAll, ARes.ev, LV.flat, ite_true, ite_false, exists_eq_left', exists_eq_left, keyOf, implies_true, fillC, capOf]
  unfold posOf
  by_cases hF : Filled x y z cs
  · have hsp := syms_pos hF.1
    have hsl := symsK_len (x := x) (y := y) (z := z) (cs := cs) (k := 24)
    simp (disch := omega) only [hF, ↓SXd, SXu, slBounds, ↓sop, ↓aop, ↓reduceIte, LV.cells, AOp.dst, LV.I, LV.B, LV.U, LV.S, LV.nil, Nat.reduceEqDiff, Nat.reduceAdd, Nat.reduceMul, Nat.reduceSub, Nat.reduceLeDiff, Nat.reduceBEq, Nat.reduceDiv, Nat.reduceMod, Int.reduceToNat, Int.reduceLT, Int.reduceLE, Int.reduceAdd, Int.reduceSub, Int.reduceMul, Int.reduceEq, Int.reduceNeg, reduceCtorEq, resV, resAll, ARes.ev, LV.flat, ite_true, ite_false, exists_eq_left', exists_eq_left, keyOf, implies_true, fillC, capOf]
    have hff := h_l8Symmetries (Live.app (L := [some (.row [.I x, .I y, .I z, .ref t 0 cs.length] true 0)]) h) hF.1 hF.2
    generalize symsK x y z cs 24 = l at hff hsp hsl ⊢
    have hz : ¬ (((l.length : Nat) : Int) = 0) := by omega
    have hb1 : 0 ≤ (24 : Int).tdiv ((l.length : Nat) : Int) := Int.tdiv_nonneg (by omega) (by omega)
    have hb2 : (24 : Int).tdiv ((l.length : Nat) : Int) ≤ 24 := by
      rw [Int.tdiv_eq_ediv_of_nonneg (by omega)]; exact Int.ediv_le_self _ (by omega)
    refine callK_of (hff) ?_
    simp (disch := omega) only [ne_eq, not_false_eq_true, hz, ↓SXd, SXu, slBounds, ↓sop, ↓aop, ↓reduceIte, LV.cells, AOp.dst, LV.I, LV.B, LV.U, LV.S, LV.nil, Nat.reduceEqDiff, Nat.reduceAdd, Nat.reduceMul, Nat.reduceSub, Nat.reduceLeDiff, Nat.reduceBEq, Nat.reduceDiv, Nat.reduceMod, Int.reduceToNat, Int.reduceLT, Int.reduceLE, Int.reduceAdd, Int.reduceSub, Int.reduceMul, Int.reduceEq, Int.reduceNeg, reduceCtorEq, resV, resAll, ARes.ev, LV.flat, ite_true, ite_false, exists_eq_left', exists_eq_left, keyOf, implies_true, fillC, capOf]
    exact cmp_drop rfl
  · simp (disch := omega) only [hF, ↓SXd, SXu, slBounds, ↓sop, ↓aop, ↓reduceIte, LV.cells, AOp.dst, LV.I, LV.B, LV.U, LV.S, LV.nil, Nat.reduceEqDiff, Nat.reduceAdd, Nat.reduceMul, Nat.reduceSub, Nat.reduceLeDiff, Nat.reduceBEq, Nat.reduceDiv, Nat.reduceMod, Int.reduceToNat, Int.reduceLT, Int.reduceLE, Int.reduceAdd, Int.reduceSub, Int.reduceMul, Int.reduceEq, Int.reduceNeg, reduceCtorEq, resV, resAll, ARes.ev, LV.flat, ite_true, ite_false, exists_eq_left', exists_eq_left, keyOf, implies_true, fillC, capOf]
    exact cmp_drop rfl
end Go.Ab
