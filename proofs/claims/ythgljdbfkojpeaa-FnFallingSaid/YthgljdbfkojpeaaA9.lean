/- Parts of the proof of FnFallingSaid: C_Jm K_Jm C_Jl K_Jl C_On K_On C_Og K_Og C_Of K_Of Oe Of C_Nc K_Nc Nc Og Oi Om On C_Hi. -/
import Derived.Test.YthgljdbfkojpeaaA3
import Derived.Test.YthgljdbfkojpeaaA4
import Derived.Test.YthgljdbfkojpeaaProg
import Derived.KernelRfl
import Derived.Test.YthgljdbfkojpeaaA6
import Derived.Test.YthgljdbfkojpeaaA7
import Derived.Test.YthgljdbfkojpeaaA5
set_option linter.all false
/- The abstract code of some functions (written by a program of mine from the translation, by way of prepF). -/
namespace Go.Ab.C
open Go.Ab
def impl_box_stack : AFn :=
  ⟨2, 8, [.tmp 4],
    .seq (.ops [(none, .box 2 (.t 0)),
       (none, .box 3 (.t 1)),
       (none, .mv 4 (.c (.U 0)))])
    (.seq (.ops [(none, .loadN 5 3 (.t 2)),
        (none, .mkf 6 F.impl_box_stack_1 [(.t 3), (.t 2)]),
        (none, .call (some 7) F.impl_box_those [(.t 5), (.t 6)]),
        (none, .mv 4 (.t 7))])
     (.ret))⟩
def impl_box_stack_1 : AFn :=
  ⟨3, 14, [.tmp 4],
    .seq (.ops [(none, .box 3 (.t 0)),
       (none, .mv 4 (.c (.B false)))])
    (.seq (.draw [⟨(none, .idxA 5 3 1 (.t 3) (.c (.I 2))), [], []⟩,
        ⟨(none, .load1 6 (.t 5)), [], []⟩,
        ⟨(none, .load1 7 (.t 1)), [], []⟩,
        ⟨(none, .loadN 8 3 (.t 2)), [], []⟩,
        ⟨(none, .loadN 9 3 (.t 3)), [], []⟩,
        ⟨(none, .call (some 10) F.impl_box_line [(.t 8), (.t 9), (.c (.I 2))]), [], [0, 1, 2]⟩,
        ⟨(none, .idxS 11 1 (.t 7) (.t 10)), [], []⟩,
        ⟨(none, .load1 12 (.t 11)), [], []⟩,
        ⟨(none, .bin 13 .lss (.t 6) (.t 12)), [], []⟩,
        ⟨(none, .mv 4 (.t 13)), [], []⟩])
     (.ret))⟩
def impl_Heap_dropped : AFn :=
  ⟨1, 11, [.tmp 2],
    .seq (.ops [(none, .box 1 (.t 0)),
       (none, .mv 2 (.c (.U 0)))])
    (.seq (.draw [⟨(none, .loadN 3 4 (.t 1)), [], []⟩,
        ⟨(none, .loadN 5 4 (.t 1)), [], []⟩,
        ⟨(none, .loadN 7 4 (.t 1)), [], []⟩,
        ⟨(none, .call (some 4) F.impl_Heap_box [(.t 3)]), [], [1, 2]⟩,
        ⟨(none, .call (some 6) F.impl_Heap_box [(.t 5)]), [], [2]⟩,
        ⟨(none, .call (some 8) F.impl_Heap_cubes [(.t 7)]), [], []⟩,
        ⟨(none, .call (some 9) F.impl_box_view [(.t 6), (.t 8), (.c (.I 2))]), [], []⟩,
        ⟨(none, .call (some 10) F.impl_box_stack [(.t 4), (.t 9)]), [], []⟩,
        ⟨(none, .mv 2 (.t 10)), [], []⟩])
     (.ret))⟩
def impl_DropHeap : AFn :=
  ⟨1, 13, [.cellN 2 4, .tmp 3],
    .seq (.ops [(none, .box 1 (.t 0)),
       (none, .alloc 2 [(.I 0), (.I 0), (.I 0), .nil]),
       (none, .mv 3 (.c (.B false)))])
    (.seq (.seq (.ops [(none, .loadN 4 4 (.t 1)),
         (none, .call (some 5) F.impl_IsHeap [(.t 4)]),
         (none, .un 6 .not (.t 5))])
      (.cond (.t 6) (.seq (.ops [(none, .build 7 [(.I 0), (.I 0), (.I 0), .nil] []),
           (none, .store 4 (.t 2) (.t 7)),
           (none, .mv 3 (.c (.B false)))])
        (.ret))
       (.skip)))
     (.seq (.draw [⟨(none, .loadN 8 4 (.t 1)), [], []⟩,
         ⟨(none, .loadN 10 4 (.t 1)), [], []⟩,
         ⟨(none, .call (some 9) F.impl_Heap_box [(.t 8)]), [], [1]⟩,
         ⟨(none, .call (some 11) F.impl_Heap_dropped [(.t 10)]), [], []⟩,
         ⟨(none, .call (some 12) F.impl_box_heap [(.t 9), (.t 11)]), [], []⟩,
         ⟨(none, .store 4 (.t 2) (.t 12)), [], []⟩,
         ⟨(none, .mv 3 (.c (.B true))), [], []⟩])
      (.ret)))⟩
def impl_IsSettled : AFn :=
  ⟨1, 12, [.tmp 2, .tmp 3],
    .seq (.ops [(none, .box 1 (.t 0)),
       (none, .mv 2 (.c (.B false))),
       (none, .mv 3 (.c (.B false)))])
    (.seq (.seq (.ops [(none, .loadN 4 4 (.t 1)),
         (none, .call (some 5) F.impl_IsHeap [(.t 4)]),
         (none, .un 6 .not (.t 5))])
      (.cond (.t 6) (.seq (.ops [(none, .mv 2 (.c (.B false))),
           (none, .mv 3 (.c (.B false)))])
        (.ret))
       (.skip)))
     (.seq (.draw [⟨(none, .loadN 7 4 (.t 1)), [], []⟩,
         ⟨(none, .loadN 9 4 (.t 1)), [], []⟩,
         ⟨(none, .call (some 8) F.impl_Heap_dropped [(.t 7)]), [], [1]⟩,
         ⟨(none, .call (some 10) F.impl_Heap_cubes [(.t 9)]), [], []⟩,
         ⟨(none, .bin 11 .eql (.t 8) (.t 10)), [], []⟩,
         ⟨(none, .mv 2 (.t 11)), [], []⟩,
         ⟨(none, .mv 3 (.c (.B true))), [], []⟩])
      (.ret)))⟩
def impl_FallSum : AFn :=
  ⟨1, 40, [.tmp 2, .tmp 3],
    .seq (.ops [(none, .box 1 (.t 0)),
       (none, .mv 2 (.c (.I 0))),
       (none, .mv 3 (.c (.B false)))])
    (.seq (.seq (.ops [(none, .loadN 9 4 (.t 1)),
         (none, .call (some 10) F.impl_IsHeap [(.t 9)]),
         (none, .un 11 .not (.t 10))])
      (.cond (.t 11) (.seq (.ops [(none, .mv 2 (.c (.I 0))),
           (none, .mv 3 (.c (.B false)))])
        (.ret))
       (.skip)))
     (.seq (.ops [(none, .mv 4 (.c (.I 0)))])
      (.seq (.seq (.ops [(none, .fieldAddr 12 (.t 1) 3),
           (none, .load1 13 (.t 12)),
           (none, .len 14 (.t 13)),
           (none, .mv 15 (.c (.I 0)))])
        (.block 0 (.loop (.seq (.ops [(none, .bin 16 .lss (.t 15) (.t 14))])
           (.seq (.cond (.t 16) (.skip)
             (.exit 0))
            (.seq (.block 1 (.seq (.ops [(none, .idxS 17 3 (.t 13) (.t 15)),
                  (none, .loadN 18 3 (.t 17)),
                  (none, .alloc 6 [(.I 0), (.I 0), (.I 0)]),
                  (none, .store 3 (.t 6) (.t 18))])
               (.ops [(none, .mv 19 (.t 4)),
                  (none, .idxA 20 3 1 (.t 6) (.c (.I 2))),
                  (none, .load1 21 (.t 20)),
                  (none, .bin 22 .add (.t 19) (.t 21)),
                  (none, .mv 4 (.t 22))])))
             (.ops [(none, .bin 23 .add (.t 15) (.c (.I 1))),
                (none, .mv 15 (.t 23))])))))))
       (.seq (.seq (.draw [⟨(none, .loadN 24 4 (.t 1)), [], []⟩,
            ⟨(none, .loadN 26 4 (.t 1)), [], []⟩,
            ⟨(none, .mv 30 (.c (.I 0))), [], []⟩,
            ⟨(none, .call (some 25) F.impl_Heap_box [(.t 24)]), [], [1, 2]⟩,
            ⟨(none, .call (some 27) F.impl_Heap_dropped [(.t 26)]), [], [2]⟩,
            ⟨(none, .call (some 28) F.impl_box_list [(.t 25), (.t 27)]), [], [2]⟩,
            ⟨(none, .len 29 (.t 28)), [], []⟩])
         (.block 2 (.loop (.seq (.ops [(none, .bin 31 .lss (.t 30) (.t 29))])
            (.seq (.cond (.t 31) (.skip)
              (.exit 2))
             (.seq (.block 3 (.seq (.ops [(none, .idxS 32 3 (.t 28) (.t 30)),
                   (none, .loadN 33 3 (.t 32)),
                   (none, .alloc 8 [(.I 0), (.I 0), (.I 0)]),
                   (none, .store 3 (.t 8) (.t 33))])
                (.ops [(none, .mv 34 (.t 4)),
                   (none, .idxA 35 3 1 (.t 8) (.c (.I 2))),
                   (none, .load1 36 (.t 35)),
                   (none, .bin 37 .sub (.t 34) (.t 36)),
                   (none, .mv 4 (.t 37))])))
              (.ops [(none, .bin 38 .add (.t 30) (.c (.I 1))),
                 (none, .mv 30 (.t 38))])))))))
        (.seq (.ops [(none, .mv 39 (.t 4)),
            (none, .mv 2 (.t 39)),
            (none, .mv 3 (.c (.B true)))])
         (.ret))))))⟩
def impl_StandingCubes : AFn :=
  ⟨1, 15, [.tmp 2, .tmp 3],
    .seq (.ops [(none, .box 1 (.t 0)),
       (none, .mv 2 (.c .nil)),
       (none, .mv 3 (.c (.B false)))])
    (.seq (.seq (.ops [(none, .loadN 4 4 (.t 1)),
         (none, .call (some 5) F.impl_IsHeap [(.t 4)]),
         (none, .un 6 .not (.t 5))])
      (.cond (.t 6) (.seq (.ops [(none, .mv 2 (.c .nil)),
           (none, .mv 3 (.c (.B false)))])
        (.ret))
       (.skip)))
     (.seq (.draw [⟨(none, .loadN 7 4 (.t 1)), [], []⟩,
         ⟨(none, .loadN 9 4 (.t 1)), [], []⟩,
         ⟨(none, .loadN 11 4 (.t 1)), [], []⟩,
         ⟨(none, .call (some 8) F.impl_Heap_box [(.t 7)]), [], [1, 2]⟩,
         ⟨(none, .call (some 10) F.impl_Heap_box [(.t 9)]), [], [2]⟩,
         ⟨(none, .call (some 12) F.impl_Heap_cubes [(.t 11)]), [], []⟩,
         ⟨(none, .call (some 13) F.impl_box_standing [(.t 10), (.t 12)]), [], []⟩,
         ⟨(none, .call (some 14) F.impl_box_list [(.t 8), (.t 13)]), [], []⟩,
         ⟨(none, .mv 2 (.t 14)), [], []⟩,
         ⟨(none, .mv 3 (.c (.B true))), [], []⟩])
      (.ret)))⟩
def impl_HangingCubes : AFn :=
  ⟨1, 18, [.tmp 2, .tmp 3],
    .seq (.ops [(none, .box 1 (.t 0)),
       (none, .mv 2 (.c .nil)),
       (none, .mv 3 (.c (.B false)))])
    (.seq (.seq (.ops [(none, .loadN 4 4 (.t 1)),
         (none, .call (some 5) F.impl_IsHeap [(.t 4)]),
         (none, .un 6 .not (.t 5))])
      (.cond (.t 6) (.seq (.ops [(none, .mv 2 (.c .nil)),
           (none, .mv 3 (.c (.B false)))])
        (.ret))
       (.skip)))
     (.seq (.draw [⟨(none, .loadN 7 4 (.t 1)), [], []⟩,
         ⟨(none, .loadN 9 4 (.t 1)), [], []⟩,
         ⟨(none, .loadN 11 4 (.t 1)), [], []⟩,
         ⟨(none, .loadN 13 4 (.t 1)), [], []⟩,
         ⟨(none, .call (some 8) F.impl_Heap_box [(.t 7)]), [], [1, 2, 3]⟩,
         ⟨(none, .call (some 10) F.impl_Heap_cubes [(.t 9)]), [], [2, 3]⟩,
         ⟨(none, .call (some 12) F.impl_Heap_box [(.t 11)]), [], [3]⟩,
         ⟨(none, .call (some 14) F.impl_Heap_cubes [(.t 13)]), [], []⟩,
         ⟨(none, .call (some 15) F.impl_box_standing [(.t 12), (.t 14)]), [], []⟩,
         ⟨(none, .bin 16 .andNot (.t 10) (.t 15)), [], []⟩,
         ⟨(none, .call (some 17) F.impl_box_list [(.t 8), (.t 16)]), [], []⟩,
         ⟨(none, .mv 2 (.t 17)), [], []⟩,
         ⟨(none, .mv 3 (.c (.B true))), [], []⟩])
      (.ret)))⟩
def impl_LooseBottom : AFn :=
  ⟨1, 38, [.tmp 2, .tmp 3],
    .seq (.ops [(none, .box 1 (.t 0)),
       (none, .mv 2 (.c (.I 0))),
       (none, .mv 3 (.c (.B false)))])
    (.seq (.seq (.ops [(none, .loadN 7 4 (.t 1)),
         (none, .call (some 8) F.impl_IsHeap [(.t 7)]),
         (none, .un 9 .not (.t 8))])
      (.cond (.t 9) (.seq (.ops [(none, .mv 2 (.c (.I 0))),
           (none, .mv 3 (.c (.B false)))])
        (.ret))
       (.skip)))
     (.seq (.ops [(none, .mv 4 (.c (.I 0)))])
      (.seq (.seq (.ops [(none, .fieldAddr 10 (.t 1) 3),
           (none, .load1 11 (.t 10)),
           (none, .len 12 (.t 11)),
           (none, .mv 13 (.c (.I 0)))])
        (.block 0 (.loop (.seq (.ops [(none, .bin 14 .lss (.t 13) (.t 12))])
           (.seq (.cond (.t 14) (.skip)
             (.exit 0))
            (.seq (.block 1 (.seq (.ops [(none, .idxS 15 3 (.t 11) (.t 13)),
                  (none, .loadN 16 3 (.t 15)),
                  (none, .alloc 6 [(.I 0), (.I 0), (.I 0)]),
                  (none, .store 3 (.t 6) (.t 16))])
               (.seq (.ops [(none, .idxA 17 3 1 (.t 6) (.c (.I 2))),
                   (none, .load1 18 (.t 17)),
                   (none, .bin 19 .gtr (.t 18) (.c (.I 0))),
                   (none, .mv 20 (.t 19)),
                   (some (20, true), .fieldAddr 21 (.t 1) 3),
                   (some (20, true), .load1 22 (.t 21)),
                   (some (20, true), .idxA 23 3 1 (.t 6) (.c (.I 0))),
                   (some (20, true), .load1 24 (.t 23)),
                   (some (20, true), .idxA 25 3 1 (.t 6) (.c (.I 1))),
                   (some (20, true), .load1 26 (.t 25)),
                   (some (20, true), .idxA 27 3 1 (.t 6) (.c (.I 2))),
                   (some (20, true), .load1 28 (.t 27)),
                   (some (20, true), .bin 29 .sub (.t 28) (.c (.I 1))),
                   (some (20, true), .build 30 [(.I 0), (.I 0), (.I 0)] [(0, 1, (.t 24)), (1, 1, (.t 26)), (2, 1, (.t 29))]),
                   (some (20, true), .call (some 31) F.slices_Contains_SA3int_A3int [(.t 22), (.t 30)]),
                   (some (20, true), .un 32 .not (.t 31)),
                   (none, .pick 33 (.t 20) (.t 32) (.c (.B false)))])
                (.cond (.t 33) (.ops [(none, .mv 34 (.t 4)),
                    (none, .bin 35 .add (.t 34) (.c (.I 1))),
                    (none, .mv 4 (.t 35))])
                 (.skip)))))
             (.ops [(none, .bin 36 .add (.t 13) (.c (.I 1))),
                (none, .mv 13 (.t 36))])))))))
       (.seq (.ops [(none, .mv 37 (.t 4)),
           (none, .mv 2 (.t 37)),
           (none, .mv 3 (.c (.B true)))])
        (.ret)))))⟩
def impl_ViewOf : AFn :=
  ⟨2, 20, [.tmp 4, .tmp 5],
    .seq (.ops [(none, .box 2 (.t 0)),
       (none, .mv 4 (.c .nil)),
       (none, .mv 5 (.c (.B false)))])
    (.seq (.seq (.ops [(none, .loadN 6 4 (.t 2)),
         (none, .call (some 7) F.impl_IsHeap [(.t 6)]),
         (none, .un 8 .not (.t 7)),
         (none, .mv 9 (.t 8)),
         (some (9, false), .mv 10 (.t 1)),
         (some (9, false), .call (some 11) F.impl_isDirection [(.t 10)]),
         (some (9, false), .un 12 .not (.t 11)),
         (none, .pick 13 (.t 9) (.c (.B true)) (.t 12))])
      (.cond (.t 13) (.seq (.ops [(none, .mv 4 (.c .nil)),
           (none, .mv 5 (.c (.B false)))])
        (.ret))
       (.skip)))
     (.seq (.draw [⟨(none, .loadN 14 4 (.t 2)), [], []⟩,
         ⟨(none, .loadN 16 4 (.t 2)), [], []⟩,
         ⟨(none, .mv 18 (.t 1)), [], []⟩,
         ⟨(none, .call (some 15) F.impl_Heap_box [(.t 14)]), [], [1, 2]⟩,
         ⟨(none, .call (some 17) F.impl_Heap_cubes [(.t 16)]), [], [2]⟩,
         ⟨(none, .call (some 19) F.impl_box_view [(.t 15), (.t 17), (.t 18)]), [], []⟩,
         ⟨(none, .mv 4 (.t 19)), [], []⟩,
         ⟨(none, .mv 5 (.c (.B true))), [], []⟩])
      (.ret)))⟩
def impl_PartsOf : AFn :=
  ⟨1, 30, [.tmp 2, .tmp 3],
    .seq (.ops [(none, .box 1 (.t 0)),
       (none, .mv 2 (.c .nil)),
       (none, .mv 3 (.c (.B false)))])
    (.seq (.seq (.ops [(none, .loadN 7 4 (.t 1)),
         (none, .call (some 8) F.impl_IsHeap [(.t 7)]),
         (none, .un 9 .not (.t 8))])
      (.cond (.t 9) (.seq (.ops [(none, .mv 2 (.c .nil)),
           (none, .mv 3 (.c (.B false)))])
        (.ret))
       (.skip)))
     (.seq (.ops [(none, .buildSl 10 0 1 [] []),
         (none, .mv 4 (.t 10))])
      (.seq (.seq (.draw [⟨(none, .loadN 11 4 (.t 1)), [], []⟩,
           ⟨(none, .loadN 13 4 (.t 1)), [], []⟩,
           ⟨(none, .mv 17 (.c (.I 0))), [], []⟩,
           ⟨(none, .call (some 12) F.impl_Heap_box [(.t 11)]), [], [1, 2]⟩,
           ⟨(none, .call (some 14) F.impl_Heap_cubes [(.t 13)]), [], [2]⟩,
           ⟨(none, .call (some 15) F.impl_box_parts [(.t 12), (.t 14)]), [], [2]⟩,
           ⟨(none, .len 16 (.t 15)), [], []⟩])
        (.block 0 (.loop (.seq (.ops [(none, .bin 18 .lss (.t 17) (.t 16))])
           (.seq (.cond (.t 18) (.skip)
             (.exit 0))
            (.seq (.block 1 (.seq (.ops [(none, .idxS 19 1 (.t 15) (.t 17)),
                  (none, .load1 20 (.t 19)),
                  (none, .mv 6 (.t 20))])
               (.ops [(none, .mv 21 (.t 4)),
                  (none, .loadN 22 4 (.t 1)),
                  (none, .call (some 23) F.impl_Heap_box [(.t 22)]),
                  (none, .mv 24 (.t 6)),
                  (none, .call (some 25) F.impl_box_list [(.t 23), (.t 24)]),
                  (none, .buildSl 26 1 1 [.nil] [(0, 1, (.t 25))]),
                  (none, .append 27 1 24 (.t 21) (.t 26)),
                  (none, .mv 4 (.t 27))])))
             (.ops [(none, .bin 28 .add (.t 17) (.c (.I 1))),
                (none, .mv 17 (.t 28))])))))))
       (.seq (.ops [(none, .mv 29 (.t 4)),
           (none, .mv 2 (.t 29)),
           (none, .mv 3 (.c (.B true)))])
        (.ret)))))⟩
def slices_Contains_SA3int_A3int : AFn :=
  ⟨2, 9, [.tmp 4],
    .seq (.ops [(none, .box 3 (.t 1)),
       (none, .mv 4 (.c (.B false)))])
    (.seq (.ops [(none, .mv 5 (.t 0)),
        (none, .loadN 6 3 (.t 3)),
        (none, .call (some 7) F.slices_Index_SA3int_A3int [(.t 5), (.t 6)]),
        (none, .bin 8 .geq (.t 7) (.c (.I 0))),
        (none, .mv 4 (.t 8))])
     (.ret))⟩
def slices_Index_SA3int_A3int : AFn :=
  ⟨2, 19, [.tmp 4],
    .seq (.ops [(none, .box 3 (.t 1)),
       (none, .mv 4 (.c (.I 0)))])
    (.seq (.seq (.ops [(none, .mv 6 (.t 0)),
         (none, .len 7 (.t 6)),
         (none, .mv 8 (.c (.I 0)))])
      (.block 0 (.loop (.seq (.ops [(none, .bin 9 .lss (.t 8) (.t 7))])
         (.seq (.cond (.t 9) (.skip)
           (.exit 0))
          (.seq (.block 1 (.seq (.ops [(none, .mv 10 (.t 8)),
                (none, .mv 5 (.t 10))])
             (.seq (.draw [⟨(none, .loadN 11 3 (.t 3)), [], []⟩,
                 ⟨(none, .mv 12 (.t 0)), [], []⟩,
                 ⟨(none, .mv 13 (.t 5)), [], []⟩,
                 ⟨(none, .idxS 14 3 (.t 12) (.t 13)), [], []⟩,
                 ⟨(none, .loadN 15 3 (.t 14)), [], []⟩,
                 ⟨(none, .eqs 16 false 3 (.t 11) (.t 15)), [], []⟩])
              (.cond (.t 16) (.seq (.ops [(none, .mv 17 (.t 5)),
                   (none, .mv 4 (.t 17))])
                (.ret))
               (.skip)))))
           (.ops [(none, .bin 18 .add (.t 8) (.c (.I 1))),
              (none, .mv 8 (.t 18))])))))))
     (.seq (.ops [(none, .mv 4 (.c (.I (-1))))])
      (.ret)))⟩
def impl_isDirection : AFn :=
  ⟨1, 5, [.tmp 2],
    .seq (.ops [(none, .mv 2 (.c (.B false)))])
    (.seq (.ops [(none, .mv 3 (.t 0)),
        (none, .call (some 4) F.impl_within [(.t 3), (.c (.I 0)), (.c (.I 2))]),
        (none, .mv 2 (.t 4))])
     (.ret))⟩
end Go.Ab.C

/- That the program has this code. -/
namespace Go.Ab.K
open Go Go.Ab
theorem impl_box_stack : prepF Go.Proofs.Try.prog F.impl_box_stack = some C.impl_box_stack := by kernel_rfl
theorem impl_box_stack_1 : prepF Go.Proofs.Try.prog F.impl_box_stack_1 = some C.impl_box_stack_1 := by kernel_rfl
theorem impl_Heap_dropped : prepF Go.Proofs.Try.prog F.impl_Heap_dropped = some C.impl_Heap_dropped := by kernel_rfl
theorem impl_DropHeap : prepF Go.Proofs.Try.prog F.impl_DropHeap = some C.impl_DropHeap := by kernel_rfl
theorem impl_IsSettled : prepF Go.Proofs.Try.prog F.impl_IsSettled = some C.impl_IsSettled := by kernel_rfl
theorem impl_FallSum : prepF Go.Proofs.Try.prog F.impl_FallSum = some C.impl_FallSum := by kernel_rfl
theorem impl_StandingCubes : prepF Go.Proofs.Try.prog F.impl_StandingCubes = some C.impl_StandingCubes := by kernel_rfl
theorem impl_HangingCubes : prepF Go.Proofs.Try.prog F.impl_HangingCubes = some C.impl_HangingCubes := by kernel_rfl
theorem impl_LooseBottom : prepF Go.Proofs.Try.prog F.impl_LooseBottom = some C.impl_LooseBottom := by kernel_rfl
theorem impl_ViewOf : prepF Go.Proofs.Try.prog F.impl_ViewOf = some C.impl_ViewOf := by kernel_rfl
theorem impl_PartsOf : prepF Go.Proofs.Try.prog F.impl_PartsOf = some C.impl_PartsOf := by kernel_rfl
theorem slices_Contains_SA3int_A3int : prepF Go.Proofs.Try.prog F.slices_Contains_SA3int_A3int = some C.slices_Contains_SA3int_A3int := by kernel_rfl
theorem slices_Index_SA3int_A3int : prepF Go.Proofs.Try.prog F.slices_Index_SA3int_A3int = some C.slices_Index_SA3int_A3int := by kernel_rfl
theorem impl_isDirection : prepF Go.Proofs.Try.prog F.impl_isDirection = some C.impl_isDirection := by kernel_rfl
end Go.Ab.K

/- The abstract code of some functions (written by a program of mine from the translation, by way of prepF). -/
namespace Go.Ab.C
open Go.Ab
def spec_l7Drop : AFn :=
  ⟨1, 12, [.cellN 2 4],
    .seq (.ops [(none, .box 1 (.t 0)),
       (none, .alloc 2 [(.I 0), (.I 0), (.I 0), .nil])])
    (.seq (.draw [⟨(none, .fieldAddr 3 (.t 1) 0), [], []⟩,
        ⟨(none, .load1 4 (.t 3)), [], []⟩,
        ⟨(none, .fieldAddr 5 (.t 1) 1), [], []⟩,
        ⟨(none, .load1 6 (.t 5)), [], []⟩,
        ⟨(none, .fieldAddr 7 (.t 1) 2), [], []⟩,
        ⟨(none, .load1 8 (.t 7)), [], []⟩,
        ⟨(none, .loadN 9 4 (.t 1)), [], []⟩,
        ⟨(none, .call (some 10) F.spec_l2Heights [(.t 9)]), [], [0, 1, 2, 3, 4, 5]⟩,
        ⟨(none, .call (some 11) F.spec_l2Stack [(.t 4), (.t 6), (.t 8), (.t 10)]), [], []⟩,
        ⟨(none, .store 4 (.t 2) (.t 11)), [], []⟩])
     (.ret))⟩
def spec_DropHeap : AFn :=
  ⟨1, 10, [.cellN 2 4, .tmp 3],
    .seq (.ops [(none, .box 1 (.t 0)),
       (none, .alloc 2 [(.I 0), (.I 0), (.I 0), .nil]),
       (none, .mv 3 (.c (.B false)))])
    (.seq (.seq (.ops [(none, .loadN 4 4 (.t 1)),
         (none, .call (some 5) F.spec_l2Heap [(.t 4)]),
         (none, .un 6 .not (.t 5))])
      (.cond (.t 6) (.seq (.ops [(none, .build 7 [(.I 0), (.I 0), (.I 0), .nil] []),
           (none, .store 4 (.t 2) (.t 7)),
           (none, .mv 3 (.c (.B false)))])
        (.ret))
       (.skip)))
     (.seq (.ops [(none, .loadN 8 4 (.t 1)),
         (none, .call (some 9) F.spec_l7Drop [(.t 8)]),
         (none, .store 4 (.t 2) (.t 9)),
         (none, .mv 3 (.c (.B true)))])
      (.ret)))⟩
def spec_l5Same : AFn :=
  ⟨2, 52, [.tmp 4],
    .seq (.ops [(none, .box 2 (.t 0)),
       (none, .box 3 (.t 1)),
       (none, .mv 4 (.c (.B false)))])
    (.seq (.seq (.ops [(none, .fieldAddr 6 (.t 2) 0),
         (none, .load1 7 (.t 6)),
         (none, .fieldAddr 8 (.t 3) 0),
         (none, .load1 9 (.t 8)),
         (none, .bin 10 .neq (.t 7) (.t 9)),
         (none, .mv 11 (.t 10)),
         (some (11, false), .fieldAddr 12 (.t 2) 1),
         (some (11, false), .load1 13 (.t 12)),
         (some (11, false), .fieldAddr 14 (.t 3) 1),
         (some (11, false), .load1 15 (.t 14)),
         (some (11, false), .bin 16 .neq (.t 13) (.t 15)),
         (none, .pick 17 (.t 11) (.c (.B true)) (.t 16)),
         (none, .mv 18 (.t 17)),
         (some (18, false), .fieldAddr 19 (.t 2) 2),
         (some (18, false), .load1 20 (.t 19)),
         (some (18, false), .fieldAddr 21 (.t 3) 2),
         (some (18, false), .load1 22 (.t 21)),
         (some (18, false), .bin 23 .neq (.t 20) (.t 22)),
         (none, .pick 24 (.t 18) (.c (.B true)) (.t 23)),
         (none, .mv 25 (.t 24)),
         (some (25, false), .fieldAddr 26 (.t 2) 3),
         (some (25, false), .load1 27 (.t 26)),
         (some (25, false), .len 28 (.t 27)),
         (some (25, false), .fieldAddr 29 (.t 3) 3),
         (some (25, false), .load1 30 (.t 29)),
         (some (25, false), .len 31 (.t 30)),
         (some (25, false), .bin 32 .neq (.t 28) (.t 31)),
         (none, .pick 33 (.t 25) (.c (.B true)) (.t 32))])
      (.cond (.t 33) (.seq (.ops [(none, .mv 4 (.c (.B false)))])
        (.ret))
       (.skip)))
     (.seq (.seq (.ops [(none, .mv 5 (.c (.I 0)))])
       (.block 0 (.loop (.seq (.seq (.ops [(none, .mv 34 (.t 5)),
              (none, .fieldAddr 35 (.t 2) 3),
              (none, .load1 36 (.t 35)),
              (none, .len 37 (.t 36)),
              (none, .bin 38 .lss (.t 34) (.t 37))])
           (.cond (.t 38) (.skip)
            (.exit 0)))
          (.seq (.block 1 (.seq (.draw [⟨(none, .fieldAddr 41 (.t 2) 3), [], []⟩,
                ⟨(none, .load1 42 (.t 41)), [], []⟩,
                ⟨(none, .mv 43 (.t 5)), [], []⟩,
                ⟨(none, .idxS 44 3 (.t 42) (.t 43)), [], []⟩,
                ⟨(none, .loadN 45 3 (.t 44)), [], []⟩,
                ⟨(none, .fieldAddr 46 (.t 3) 3), [], []⟩,
                ⟨(none, .load1 47 (.t 46)), [], []⟩,
                ⟨(none, .mv 48 (.t 5)), [], []⟩,
                ⟨(none, .idxS 49 3 (.t 47) (.t 48)), [], []⟩,
                ⟨(none, .loadN 50 3 (.t 49)), [], []⟩,
                ⟨(none, .eqs 51 true 3 (.t 45) (.t 50)), [], []⟩])
             (.cond (.t 51) (.seq (.ops [(none, .mv 4 (.c (.B false)))])
               (.ret))
              (.skip))))
           (.ops [(none, .mv 39 (.t 5)),
              (none, .bin 40 .add (.t 39) (.c (.I 1))),
              (none, .mv 5 (.t 40))]))))))
      (.seq (.ops [(none, .mv 4 (.c (.B true)))])
       (.ret))))⟩
def spec_IsSettled : AFn :=
  ⟨1, 11, [.tmp 2, .tmp 3],
    .seq (.ops [(none, .box 1 (.t 0)),
       (none, .mv 2 (.c (.B false))),
       (none, .mv 3 (.c (.B false)))])
    (.seq (.seq (.ops [(none, .loadN 4 4 (.t 1)),
         (none, .call (some 5) F.spec_l2Heap [(.t 4)]),
         (none, .un 6 .not (.t 5))])
      (.cond (.t 6) (.seq (.ops [(none, .mv 2 (.c (.B false))),
           (none, .mv 3 (.c (.B false)))])
        (.ret))
       (.skip)))
     (.seq (.draw [⟨(none, .loadN 7 4 (.t 1)), [], []⟩,
         ⟨(none, .loadN 9 4 (.t 1)), [], []⟩,
         ⟨(none, .call (some 8) F.spec_l7Drop [(.t 7)]), [], [1]⟩,
         ⟨(none, .call (some 10) F.spec_l5Same [(.t 8), (.t 9)]), [], []⟩,
         ⟨(none, .mv 2 (.t 10)), [], []⟩,
         ⟨(none, .mv 3 (.c (.B true))), [], []⟩])
      (.ret)))⟩
def spec_l7Sum : AFn :=
  ⟨1, 21, [.tmp 2],
    .seq (.ops [(none, .box 1 (.t 0)),
       (none, .mv 2 (.c (.I 0)))])
    (.seq (.ops [(none, .mv 3 (.c (.I 0)))])
     (.seq (.seq (.ops [(none, .mv 4 (.c (.I 0)))])
       (.block 0 (.loop (.seq (.seq (.ops [(none, .mv 5 (.t 4)),
              (none, .fieldAddr 6 (.t 1) 3),
              (none, .load1 7 (.t 6)),
              (none, .len 8 (.t 7)),
              (none, .bin 9 .lss (.t 5) (.t 8))])
           (.cond (.t 9) (.skip)
            (.exit 0)))
          (.seq (.block 1 (.ops [(none, .mv 12 (.t 3)),
               (none, .fieldAddr 13 (.t 1) 3),
               (none, .load1 14 (.t 13)),
               (none, .mv 15 (.t 4)),
               (none, .idxS 16 3 (.t 14) (.t 15)),
               (none, .idxA 17 3 1 (.t 16) (.c (.I 2))),
               (none, .load1 18 (.t 17)),
               (none, .bin 19 .add (.t 12) (.t 18)),
               (none, .mv 3 (.t 19))]))
           (.ops [(none, .mv 10 (.t 4)),
              (none, .bin 11 .add (.t 10) (.c (.I 1))),
              (none, .mv 4 (.t 11))]))))))
      (.seq (.ops [(none, .mv 20 (.t 3)),
          (none, .mv 2 (.t 20))])
       (.ret))))⟩
def spec_FallSum : AFn :=
  ⟨1, 13, [.tmp 2, .tmp 3],
    .seq (.ops [(none, .box 1 (.t 0)),
       (none, .mv 2 (.c (.I 0))),
       (none, .mv 3 (.c (.B false)))])
    (.seq (.seq (.ops [(none, .loadN 4 4 (.t 1)),
         (none, .call (some 5) F.spec_l2Heap [(.t 4)]),
         (none, .un 6 .not (.t 5))])
      (.cond (.t 6) (.seq (.ops [(none, .mv 2 (.c (.I 0))),
           (none, .mv 3 (.c (.B false)))])
        (.ret))
       (.skip)))
     (.seq (.draw [⟨(none, .loadN 7 4 (.t 1)), [], []⟩,
         ⟨(none, .loadN 9 4 (.t 1)), [], []⟩,
         ⟨(none, .call (some 8) F.spec_l7Sum [(.t 7)]), [], [1]⟩,
         ⟨(none, .call (some 10) F.spec_l7Drop [(.t 9)]), [], []⟩,
         ⟨(none, .call (some 11) F.spec_l7Sum [(.t 10)]), [], []⟩,
         ⟨(none, .bin 12 .sub (.t 8) (.t 11)), [], []⟩,
         ⟨(none, .mv 2 (.t 12)), [], []⟩,
         ⟨(none, .mv 3 (.c (.B true))), [], []⟩])
      (.ret)))⟩
def spec_StandingCubes : AFn :=
  ⟨1, 10, [.tmp 2, .tmp 3],
    .seq (.ops [(none, .box 1 (.t 0)),
       (none, .mv 2 (.c .nil)),
       (none, .mv 3 (.c (.B false)))])
    (.seq (.seq (.ops [(none, .loadN 4 4 (.t 1)),
         (none, .call (some 5) F.spec_l2Heap [(.t 4)]),
         (none, .un 6 .not (.t 5))])
      (.cond (.t 6) (.seq (.ops [(none, .buildSl 7 0 3 [] []),
           (none, .mv 2 (.t 7)),
           (none, .mv 3 (.c (.B false)))])
        (.ret))
       (.skip)))
     (.seq (.ops [(none, .loadN 8 4 (.t 1)),
         (none, .call (some 9) F.spec_l7Parted [(.t 8), (.c (.B false))]),
         (none, .mv 2 (.t 9)),
         (none, .mv 3 (.c (.B true)))])
      (.ret)))⟩
def spec_HangingCubes : AFn :=
  ⟨1, 10, [.tmp 2, .tmp 3],
    .seq (.ops [(none, .box 1 (.t 0)),
       (none, .mv 2 (.c .nil)),
       (none, .mv 3 (.c (.B false)))])
    (.seq (.seq (.ops [(none, .loadN 4 4 (.t 1)),
         (none, .call (some 5) F.spec_l2Heap [(.t 4)]),
         (none, .un 6 .not (.t 5))])
      (.cond (.t 6) (.seq (.ops [(none, .buildSl 7 0 3 [] []),
           (none, .mv 2 (.t 7)),
           (none, .mv 3 (.c (.B false)))])
        (.ret))
       (.skip)))
     (.seq (.ops [(none, .loadN 8 4 (.t 1)),
         (none, .call (some 9) F.spec_l7Parted [(.t 8), (.c (.B true))]),
         (none, .mv 2 (.t 9)),
         (none, .mv 3 (.c (.B true)))])
      (.ret)))⟩
def spec_LooseBottom : AFn :=
  ⟨1, 38, [.tmp 2, .tmp 3],
    .seq (.ops [(none, .box 1 (.t 0)),
       (none, .mv 2 (.c (.I 0))),
       (none, .mv 3 (.c (.B false)))])
    (.seq (.seq (.ops [(none, .loadN 7 4 (.t 1)),
         (none, .call (some 8) F.spec_l2Heap [(.t 7)]),
         (none, .un 9 .not (.t 8))])
      (.cond (.t 9) (.seq (.ops [(none, .mv 2 (.c (.I 0))),
           (none, .mv 3 (.c (.B false)))])
        (.ret))
       (.skip)))
     (.seq (.ops [(none, .mv 4 (.c (.I 0)))])
      (.seq (.seq (.ops [(none, .mv 5 (.c (.I 0)))])
        (.block 0 (.loop (.seq (.seq (.ops [(none, .mv 10 (.t 5)),
               (none, .fieldAddr 11 (.t 1) 3),
               (none, .load1 12 (.t 11)),
               (none, .len 13 (.t 12)),
               (none, .bin 14 .lss (.t 10) (.t 13))])
            (.cond (.t 14) (.skip)
             (.exit 0)))
           (.seq (.block 1 (.seq (.ops [(none, .fieldAddr 17 (.t 1) 3),
                 (none, .load1 18 (.t 17)),
                 (none, .mv 19 (.t 5)),
                 (none, .idxS 20 3 (.t 18) (.t 19)),
                 (none, .loadN 21 3 (.t 20)),
                 (none, .alloc 6 [(.I 0), (.I 0), (.I 0)]),
                 (none, .store 3 (.t 6) (.t 21))])
              (.seq (.ops [(none, .idxA 22 3 1 (.t 6) (.c (.I 2))),
                  (none, .load1 23 (.t 22)),
                  (none, .bin 24 .sub (.t 23) (.c (.I 1))),
                  (none, .idxA 25 3 1 (.t 6) (.c (.I 2))),
                  (none, .store 1 (.t 25) (.t 24))])
               (.seq (.ops [(none, .idxA 26 3 1 (.t 6) (.c (.I 2))),
                   (none, .load1 27 (.t 26)),
                   (none, .bin 28 .geq (.t 27) (.c (.I 0))),
                   (none, .mv 29 (.t 28)),
                   (some (29, true), .loadN 30 4 (.t 1)),
                   (some (29, true), .loadN 31 3 (.t 6)),
                   (some (29, true), .call (some 32) F.spec_l2Has [(.t 30), (.t 31)]),
                   (some (29, true), .un 33 .not (.t 32)),
                   (none, .pick 34 (.t 29) (.t 33) (.c (.B false)))])
                (.cond (.t 34) (.ops [(none, .mv 35 (.t 4)),
                    (none, .bin 36 .add (.t 35) (.c (.I 1))),
                    (none, .mv 4 (.t 36))])
                 (.skip))))))
            (.ops [(none, .mv 15 (.t 5)),
               (none, .bin 16 .add (.t 15) (.c (.I 1))),
               (none, .mv 5 (.t 16))]))))))
       (.seq (.ops [(none, .mv 37 (.t 4)),
           (none, .mv 2 (.t 37)),
           (none, .mv 3 (.c (.B true)))])
        (.ret)))))⟩
end Go.Ab.C

/- That the program has this code. -/
namespace Go.Ab.K
open Go Go.Ab
theorem spec_l7Drop : prepF Go.Proofs.Try.prog F.spec_l7Drop = some C.spec_l7Drop := by kernel_rfl
theorem spec_DropHeap : prepF Go.Proofs.Try.prog F.spec_DropHeap = some C.spec_DropHeap := by kernel_rfl
theorem spec_l5Same : prepF Go.Proofs.Try.prog F.spec_l5Same = some C.spec_l5Same := by kernel_rfl
theorem spec_IsSettled : prepF Go.Proofs.Try.prog F.spec_IsSettled = some C.spec_IsSettled := by kernel_rfl
theorem spec_l7Sum : prepF Go.Proofs.Try.prog F.spec_l7Sum = some C.spec_l7Sum := by kernel_rfl
theorem spec_FallSum : prepF Go.Proofs.Try.prog F.spec_FallSum = some C.spec_FallSum := by kernel_rfl
theorem spec_StandingCubes : prepF Go.Proofs.Try.prog F.spec_StandingCubes = some C.spec_StandingCubes := by kernel_rfl
theorem spec_HangingCubes : prepF Go.Proofs.Try.prog F.spec_HangingCubes = some C.spec_HangingCubes := by kernel_rfl
theorem spec_LooseBottom : prepF Go.Proofs.Try.prog F.spec_LooseBottom = some C.spec_LooseBottom := by kernel_rfl
end Go.Ab.K

/- The abstract code of some functions (written by a program of mine from the translation, by way of prepF). -/
namespace Go.Ab.C
open Go.Ab
def impl_SinkHeap : AFn :=
  ⟨1, 55, [.cellN 2 4, .tmp 3, .tmp 4],
    .seq (.ops [(none, .box 1 (.t 0)),
       (none, .alloc 2 [(.I 0), (.I 0), (.I 0), .nil]),
       (none, .mv 3 (.c (.I 0))),
       (none, .mv 4 (.c (.B false)))])
    (.seq (.seq (.ops [(none, .loadN 12 4 (.t 1)),
         (none, .call (some 13) F.impl_IsHeap [(.t 12)]),
         (none, .un 14 .not (.t 13))])
      (.cond (.t 14) (.seq (.ops [(none, .build 15 [(.I 0), (.I 0), (.I 0), .nil] []),
           (none, .store 4 (.t 2) (.t 15)),
           (none, .mv 3 (.c (.I 0))),
           (none, .mv 4 (.c (.B false)))])
        (.ret))
       (.skip)))
     (.seq (.draw [⟨(none, .loadN 16 4 (.t 1)), [], []⟩,
         ⟨(none, .loadN 18 4 (.t 1)), [], []⟩,
         ⟨(none, .alloc 5 [(.I 0), (.I 0), (.I 0)]), [], []⟩,
         ⟨(none, .call (some 17) F.impl_Heap_box [(.t 16)]), [2], [1]⟩,
         ⟨(none, .call (some 19) F.impl_Heap_cubes [(.t 18)]), [2], []⟩,
         ⟨(none, .store 3 (.t 5) (.t 17)), [], []⟩,
         ⟨(none, .mv 6 (.t 19)), [], []⟩])
      (.seq (.ops [(none, .mv 7 (.c (.I 0)))])
       (.block 0 (.loop (.seq (.block 1 (.seq (.ops [(none, .loadN 22 3 (.t 5)),
               (none, .mv 23 (.t 6)),
               (none, .call (some 24) F.impl_box_standing [(.t 22), (.t 23)]),
               (none, .mv 8 (.t 24))])
            (.seq (.seq (.ops [(none, .mv 25 (.t 8)),
                 (none, .mv 26 (.t 6)),
                 (none, .bin 27 .eql (.t 25) (.t 26))])
              (.cond (.t 27) (.seq (.ops [(none, .loadN 28 3 (.t 5)),
                   (none, .mv 29 (.t 6)),
                   (none, .call (some 30) F.impl_box_heap [(.t 28), (.t 29)]),
                   (none, .mv 31 (.t 7)),
                   (none, .store 4 (.t 2) (.t 30)),
                   (none, .mv 3 (.t 31)),
                   (none, .mv 4 (.c (.B true)))])
                (.ret))
               (.skip)))
             (.seq (.ops [(none, .mv 32 (.t 8)),
                 (none, .mv 9 (.t 32))])
              (.seq (.seq (.ops [(none, .loadN 33 3 (.t 5)),
                   (none, .mv 34 (.t 6)),
                   (none, .mv 35 (.t 8)),
                   (none, .bin 36 .andNot (.t 34) (.t 35)),
                   (none, .call (some 37) F.impl_box_list [(.t 33), (.t 36)]),
                   (none, .len 38 (.t 37)),
                   (none, .mv 39 (.c (.I 0)))])
                (.block 2 (.loop (.seq (.ops [(none, .bin 40 .lss (.t 39) (.t 38))])
                   (.seq (.cond (.t 40) (.skip)
                     (.exit 2))
                    (.seq (.block 3 (.seq (.ops [(none, .idxS 41 3 (.t 37) (.t 39)),
                          (none, .loadN 42 3 (.t 41)),
                          (none, .alloc 11 [(.I 0), (.I 0), (.I 0)]),
                          (none, .store 3 (.t 11) (.t 42))])
                       (.seq (.ops [(none, .idxA 43 3 1 (.t 11) (.c (.I 2))),
                           (none, .load1 44 (.t 43)),
                           (none, .bin 45 .sub (.t 44) (.c (.I 1))),
                           (none, .idxA 46 3 1 (.t 11) (.c (.I 2))),
                           (none, .store 1 (.t 46) (.t 45))])
                        (.ops [(none, .mv 47 (.t 9)),
                           (none, .loadN 48 3 (.t 5)),
                           (none, .loadN 49 3 (.t 11)),
                           (none, .call (some 50) F.impl_box_index [(.t 48), (.t 49)]),
                           (none, .bin 51 .shl (.c (.U 1)) (.t 50)),
                           (none, .bin 52 .or (.t 47) (.t 51)),
                           (none, .mv 9 (.t 52))]))))
                     (.ops [(none, .bin 53 .add (.t 39) (.c (.I 1))),
                        (none, .mv 39 (.t 53))])))))))
               (.ops [(none, .mv 54 (.t 9)),
                  (none, .mv 6 (.t 54))]))))))
          (.ops [(none, .mv 20 (.t 7)),
             (none, .bin 21 .add (.t 20) (.c (.I 1))),
             (none, .mv 7 (.t 21))])))))))⟩
def spec_SinkHeap : AFn :=
  ⟨1, 53, [.cellN 2 4, .tmp 3, .tmp 4],
    .seq (.ops [(none, .box 1 (.t 0)),
       (none, .alloc 2 [(.I 0), (.I 0), (.I 0), .nil]),
       (none, .mv 3 (.c (.I 0))),
       (none, .mv 4 (.c (.B false)))])
    (.seq (.seq (.ops [(none, .loadN 9 4 (.t 1)),
         (none, .call (some 10) F.spec_l2Heap [(.t 9)]),
         (none, .un 11 .not (.t 10))])
      (.cond (.t 11) (.seq (.ops [(none, .build 12 [(.I 0), (.I 0), (.I 0), .nil] []),
           (none, .store 4 (.t 2) (.t 12)),
           (none, .mv 3 (.c (.I 0))),
           (none, .mv 4 (.c (.B false)))])
        (.ret))
       (.skip)))
     (.seq (.ops [(none, .loadN 13 4 (.t 1)),
         (none, .call (some 14) F.spec_l2Own [(.t 13)]),
         (none, .alloc 5 [(.I 0), (.I 0), (.I 0), .nil]),
         (none, .store 4 (.t 5) (.t 14)),
         (none, .mv 6 (.c (.I 0)))])
      (.block 0 (.loop (.block 1 (.seq (.ops [(none, .loadN 15 4 (.t 5)),
             (none, .call (some 16) F.spec_l7Parted [(.t 15), (.c (.B true))]),
             (none, .mv 7 (.t 16))])
          (.seq (.seq (.ops [(none, .mv 17 (.t 7)),
               (none, .len 18 (.t 17)),
               (none, .bin 19 .eql (.t 18) (.c (.I 0)))])
            (.cond (.t 19) (.seq (.ops [(none, .loadN 20 4 (.t 5)),
                 (none, .mv 21 (.t 6)),
                 (none, .store 4 (.t 2) (.t 20)),
                 (none, .mv 3 (.t 21)),
                 (none, .mv 4 (.c (.B true)))])
              (.ret))
             (.skip)))
           (.seq (.draw [⟨(none, .loadN 22 4 (.t 5)), [], []⟩,
               ⟨(none, .loadN 23 4 (.t 5)), [], []⟩,
               ⟨(none, .call (some 24) F.spec_l7Parted [(.t 23), (.c (.B false))]), [], [0]⟩,
               ⟨(none, .call (some 25) F.spec_l2Made [(.t 22), (.t 24)]), [], []⟩,
               ⟨(none, .store 4 (.t 5) (.t 25)), [], []⟩])
            (.seq (.seq (.ops [(none, .mv 8 (.c (.I 0)))])
              (.block 2 (.loop (.seq (.seq (.ops [(none, .mv 26 (.t 8)),
                     (none, .mv 27 (.t 7)),
                     (none, .len 28 (.t 27)),
                     (none, .bin 29 .lss (.t 26) (.t 28))])
                  (.cond (.t 29) (.skip)
                   (.exit 2)))
                 (.seq (.block 3 (.draw [⟨(none, .loadN 32 4 (.t 5)), [], []⟩,
                      ⟨(none, .mv 33 (.t 7)), [], []⟩,
                      ⟨(none, .mv 34 (.t 8)), [], []⟩,
                      ⟨(none, .idxS 35 3 (.t 33) (.t 34)), [], []⟩,
                      ⟨(none, .idxA 36 3 1 (.t 35) (.c (.I 0))), [], []⟩,
                      ⟨(none, .load1 37 (.t 36)), [], []⟩,
                      ⟨(none, .mv 38 (.t 7)), [], []⟩,
                      ⟨(none, .mv 39 (.t 8)), [], []⟩,
                      ⟨(none, .idxS 40 3 (.t 38) (.t 39)), [], []⟩,
                      ⟨(none, .idxA 41 3 1 (.t 40) (.c (.I 1))), [], []⟩,
                      ⟨(none, .load1 42 (.t 41)), [], []⟩,
                      ⟨(none, .mv 43 (.t 7)), [], []⟩,
                      ⟨(none, .mv 44 (.t 8)), [], []⟩,
                      ⟨(none, .idxS 45 3 (.t 43) (.t 44)), [], []⟩,
                      ⟨(none, .idxA 46 3 1 (.t 45) (.c (.I 2))), [], []⟩,
                      ⟨(none, .load1 47 (.t 46)), [], []⟩,
                      ⟨(none, .bin 48 .sub (.t 47) (.c (.I 1))), [], []⟩,
                      ⟨(none, .build 49 [(.I 0), (.I 0), (.I 0)] [(0, 1, (.t 37)), (1, 1, (.t 42)), (2, 1, (.t 48))]), [], []⟩,
                      ⟨(none, .call (some 50) F.spec_l2With [(.t 32), (.t 49)]), [], []⟩,
                      ⟨(none, .store 4 (.t 5) (.t 50)), [], []⟩]))
                  (.ops [(none, .mv 30 (.t 8)),
                     (none, .bin 31 .add (.t 30) (.c (.I 1))),
                     (none, .mv 8 (.t 31))]))))))
             (.ops [(none, .mv 51 (.t 6)),
                (none, .bin 52 .add (.t 51) (.c (.I 1))),
                (none, .mv 6 (.t 52))]))))))))))⟩
end Go.Ab.C

/- That the program has this code. -/
namespace Go.Ab.K
open Go Go.Ab
theorem impl_SinkHeap : prepF Go.Proofs.Try.prog F.impl_SinkHeap = some C.impl_SinkHeap := by kernel_rfl
theorem spec_SinkHeap : prepF Go.Proofs.Try.prog F.spec_SinkHeap = some C.spec_SinkHeap := by kernel_rfl
end Go.Ab.K

/- The abstract code of some functions (written by a program of mine from the translation, by way of prepF). -/
namespace Go.Ab.C
open Go.Ab
def impl_box_floor : AFn :=
  ⟨1, 5, [.tmp 2],
    .seq (.ops [(none, .box 1 (.t 0)),
       (none, .mv 2 (.c (.U 0)))])
    (.seq (.ops [(none, .loadN 3 3 (.t 1)),
        (none, .call (some 4) F.impl_box_those [(.t 3), (.c (.clo F.impl_box_floor_1 []))]),
        (none, .mv 2 (.t 4))])
     (.ret))⟩
def impl_box_floor_1 : AFn :=
  ⟨1, 6, [.tmp 2],
    .seq (.ops [(none, .box 1 (.t 0)),
       (none, .mv 2 (.c (.B false)))])
    (.seq (.ops [(none, .idxA 3 3 1 (.t 1) (.c (.I 2))),
        (none, .load1 4 (.t 3)),
        (none, .bin 5 .eql (.t 4) (.c (.I 0))),
        (none, .mv 2 (.t 5))])
     (.ret))⟩
def impl_box_standing : AFn :=
  ⟨2, 12, [.tmp 4],
    .seq (.ops [(none, .box 2 (.t 0)),
       (none, .mv 4 (.c (.U 0)))])
    (.seq (.draw [⟨(none, .loadN 5 3 (.t 2)), [], []⟩,
        ⟨(none, .mv 6 (.t 1)), [], []⟩,
        ⟨(none, .loadN 7 3 (.t 2)), [], []⟩,
        ⟨(none, .mv 10 (.t 1)), [], []⟩,
        ⟨(none, .call (some 8) F.impl_box_floor [(.t 7)]), [], [0, 1, 3]⟩,
        ⟨(none, .bin 9 .and (.t 6) (.t 8)), [], []⟩,
        ⟨(none, .call (some 11) F.impl_box_grown [(.t 5), (.t 9), (.t 10)]), [], []⟩,
        ⟨(none, .mv 4 (.t 11)), [], []⟩])
     (.ret))⟩
end Go.Ab.C

/- That the program has this code. -/
namespace Go.Ab.K
open Go Go.Ab
theorem impl_box_floor : prepF Go.Proofs.Try.prog F.impl_box_floor = some C.impl_box_floor := by kernel_rfl
theorem impl_box_floor_1 : prepF Go.Proofs.Try.prog F.impl_box_floor_1 = some C.impl_box_floor_1 := by kernel_rfl
theorem impl_box_standing : prepF Go.Proofs.Try.prog F.impl_box_standing = some C.impl_box_standing := by kernel_rfl
end Go.Ab.K

/- The abstract code of some functions (written by a program of mine from the translation, by way of prepF). -/
namespace Go.Ab.C
open Go.Ab
def spec_l7Parted : AFn :=
  ⟨2, 72, [.tmp 4],
    .seq (.ops [(none, .box 2 (.t 0)),
       (none, .mv 4 (.c .nil))])
    (.seq (.draw [⟨(none, .loadN 11 4 (.t 2)), [], []⟩,
        ⟨(none, .fieldAddr 13 (.t 2) 0), [], []⟩,
        ⟨(none, .load1 14 (.t 13)), [], []⟩,
        ⟨(none, .fieldAddr 15 (.t 2) 1), [], []⟩,
        ⟨(none, .load1 16 (.t 15)), [], []⟩,
        ⟨(none, .fieldAddr 17 (.t 2) 2), [], []⟩,
        ⟨(none, .load1 18 (.t 17)), [], []⟩,
        ⟨(none, .alloc 6 [(.I 0), (.I 0), (.I 0), .nil]), [], []⟩,
        ⟨(none, .call (some 12) F.spec_l2Parts [(.t 11)]), [7], [1, 2, 3, 4, 5, 6]⟩,
        ⟨(none, .call (some 19) F.spec_l2Empty [(.t 14), (.t 16), (.t 18)]), [7], []⟩,
        ⟨(none, .mv 5 (.t 12)), [], []⟩,
        ⟨(none, .store 4 (.t 6) (.t 19)), [], []⟩])
     (.seq (.seq (.ops [(none, .mv 7 (.c (.I 0)))])
       (.block 0 (.loop (.seq (.seq (.ops [(none, .mv 20 (.t 7)),
              (none, .mv 21 (.t 5)),
              (none, .len 22 (.t 21)),
              (none, .bin 23 .lss (.t 20) (.t 22))])
           (.cond (.t 23) (.skip)
            (.exit 0)))
          (.seq (.block 1 (.seq (.ops [(none, .mv 8 (.c (.B false)))])
             (.seq (.seq (.ops [(none, .mv 9 (.c (.I 0)))])
               (.block 2 (.loop (.seq (.seq (.ops [(none, .mv 26 (.t 9)),
                      (none, .mv 27 (.t 5)),
                      (none, .mv 28 (.t 7)),
                      (none, .idxS 29 1 (.t 27) (.t 28)),
                      (none, .load1 30 (.t 29)),
                      (none, .len 31 (.t 30)),
                      (none, .bin 32 .lss (.t 26) (.t 31))])
                   (.cond (.t 32) (.skip)
                    (.exit 2)))
                  (.seq (.block 3 (.ops [(none, .mv 35 (.t 8)),
                       (none, .mv 36 (.t 35)),
                       (some (36, false), .mv 37 (.t 5)),
                       (some (36, false), .mv 38 (.t 7)),
                       (some (36, false), .idxS 39 1 (.t 37) (.t 38)),
                       (some (36, false), .load1 40 (.t 39)),
                       (some (36, false), .mv 41 (.t 9)),
                       (some (36, false), .idxS 42 3 (.t 40) (.t 41)),
                       (some (36, false), .idxA 43 3 1 (.t 42) (.c (.I 2))),
                       (some (36, false), .load1 44 (.t 43)),
                       (some (36, false), .bin 45 .eql (.t 44) (.c (.I 0))),
                       (none, .pick 46 (.t 36) (.c (.B true)) (.t 45)),
                       (none, .mv 8 (.t 46))]))
                   (.ops [(none, .mv 33 (.t 9)),
                      (none, .bin 34 .add (.t 33) (.c (.I 1))),
                      (none, .mv 9 (.t 34))]))))))
              (.seq (.ops [(none, .mv 10 (.c (.I 0)))])
               (.block 4 (.loop (.seq (.seq (.ops [(none, .mv 47 (.t 10)),
                      (none, .mv 48 (.t 5)),
                      (none, .mv 49 (.t 7)),
                      (none, .idxS 50 1 (.t 48) (.t 49)),
                      (none, .load1 51 (.t 50)),
                      (none, .len 52 (.t 51)),
                      (none, .bin 53 .lss (.t 47) (.t 52)),
                      (none, .mv 54 (.t 53)),
                      (some (54, true), .mv 55 (.t 8)),
                      (some (54, true), .mv 56 (.t 1)),
                      (some (54, true), .eqb 57 true (.t 55) (.t 56)),
                      (none, .pick 58 (.t 54) (.t 57) (.c (.B false)))])
                   (.cond (.t 58) (.skip)
                    (.exit 4)))
                  (.seq (.block 5 (.draw [⟨(none, .loadN 61 4 (.t 6)), [], []⟩,
                       ⟨(none, .mv 62 (.t 5)), [], []⟩,
                       ⟨(none, .mv 63 (.t 7)), [], []⟩,
                       ⟨(none, .idxS 64 1 (.t 62) (.t 63)), [], []⟩,
                       ⟨(none, .load1 65 (.t 64)), [], []⟩,
                       ⟨(none, .mv 66 (.t 10)), [], []⟩,
                       ⟨(none, .idxS 67 3 (.t 65) (.t 66)), [], []⟩,
                       ⟨(none, .loadN 68 3 (.t 67)), [], []⟩,
                       ⟨(none, .call (some 69) F.spec_l2With [(.t 61), (.t 68)]), [], []⟩,
                       ⟨(none, .store 4 (.t 6) (.t 69)), [], []⟩]))
                   (.ops [(none, .mv 59 (.t 10)),
                      (none, .bin 60 .add (.t 59) (.c (.I 1))),
                      (none, .mv 10 (.t 60))])))))))))
           (.ops [(none, .mv 24 (.t 7)),
              (none, .bin 25 .add (.t 24) (.c (.I 1))),
              (none, .mv 7 (.t 25))]))))))
      (.seq (.ops [(none, .fieldAddr 70 (.t 6) 3),
          (none, .load1 71 (.t 70)),
          (none, .mv 4 (.t 71))])
       (.ret))))⟩
end Go.Ab.C

/- That the program has this code. -/
namespace Go.Ab.K
open Go Go.Ab
theorem spec_l7Parted : prepF Go.Proofs.Try.prog F.spec_l7Parted = some C.spec_l7Parted := by kernel_rfl
end Go.Ab.K

/- Plain words: what stands and what hangs, by parts and by growing. -/
namespace Go.Ab

theorem Reach.symm {x y z : Int} {q : Cell → Bool} {c d : Cell} (hc : c.inBox x y z) (hqc : q c = true) (h : Reach x y z (fun e => decide (e = c)) q d) : Reach x y z (fun e => decide (e = d)) q c ∧ q d = true := by
  induction h with
  | base h1 h2 => rw [of_decide_eq_true h2]; exact ⟨.base hc (by simp), hqc⟩
  | @step a b h1 h2 h3 h4 ih =>
    refine ⟨?_, h4⟩
    have hb : Reach x y z (fun e => decide (e = b)) q b := .base h3 (by simp)
    have hba : Reach x y z (fun e => decide (e = b)) q a := .step hb (by rw [apart_comm]; exact h2) h1.inBox ih.2
    have htr : ∀ {u}, Reach x y z (fun e => decide (e = a)) q u → Reach x y z (fun e => decide (e = b)) q u := fun hu =>
      hu.mono (fun e _ he => by rw [of_decide_eq_true he]; exact hba) fun _ _ h => h
    exact htr ih.1
theorem Reach.trans {x y z : Int} {q p : Cell → Bool} {c d : Cell} (h : Reach x y z p q c) (k : Reach x y z (fun e => decide (e = c)) q d) : Reach x y z p q d :=
  k.mono (fun e _ he => by rw [of_decide_eq_true he]; exact h) fun _ _ h => h

section
variable {x y z : Int} (hS : Sides x y z)
include hS
/-- Each part is what one of its cells reaches, and each cell is in a part. -/
theorem parts_spec : ∀ (f : Nat) (q : Cell → Bool), (pick x y z q).length < f →
    (∀ l ∈ parts x y z f q, ∃ c, c.inBox x y z ∧ q c = true ∧ l = pick x y z (reach x y z (fun d => decide (d = c)) q)) ∧ ∀ d, d.inBox x y z → q d = true → ∃ l ∈ parts x y z f q, d ∈ l
  | 0, q, h => by omega
  | f + 1, q, h => by
    cases hpk : pick x y z q with
    | nil =>
      simp only [parts, hpk]
      refine ⟨fun l hl => by simp at hl, fun d hd hq => ?_⟩
      have := (mem_pick hS (p := q) (c := d)).2 ⟨hd, hq⟩
      rw [hpk] at this; simp at this
    | cons c rs =>
      have hcq := (mem_pick hS (p := q) (c := c)).1 (by rw [hpk]; simp)
      simp only [parts, hpk]
      have hlt := filter_lt hS (l := cellsOf x y z) (p := fun d => q d && !reach x y z (fun d => decide (d = c)) q d) (q := q) (fun a _ ha => by simp only [Bool.and_eq_true] at ha; exact ha.1)
        ⟨c, (mem_cellsOf hS).2 hcq.1, hcq.2, by rw [(reach_iff (c := c)).2 (.base hcq.1 (by simp))]; simp⟩
      obtain ⟨h1, h2⟩ := parts_spec f (fun d => q d && !reach x y z (fun d => decide (d = c)) q d) (by unfold pick at h ⊢; omega)
      have key : ∀ a, a.inBox x y z → q a = true → reach x y z (fun d => decide (d = c)) q a = false → ∀ d, reach x y z (fun d => decide (d = a)) q d = reach x y z (fun d => decide (d = a)) (fun d => q d && !reach x y z (fun d => decide (d = c)) q d) d := by
        intro a ha hqa hna d
        rw [Bool.eq_iff_iff, reach_iff, reach_iff]
        constructor
        · intro hr
          refine hr.ind (P := fun e => Reach x y z (fun d => decide (d = a)) (fun d => q d && !reach x y z (fun d => decide (d = c)) q d) e) (fun e he1 he2 => .base he1 he2) (fun e e' he hab hb hq => ?_)
          refine .step he hab hb ?_
          rw [Bool.and_eq_true]
          refine ⟨hq, ?_⟩
          cases hh : reach x y z (fun d => decide (d = c)) q e' with
          | false => rfl
          | true =>
            exfalso
            have hre' := reach_iff.1 hh
            have hqe : q e = true := by
              cases he with
              | base h1 h2 => rw [of_decide_eq_true h2]; exact hqa
              | step _ _ _ h4 => simp only [Bool.and_eq_true] at h4; exact h4.1
            have hrea : Reach x y z (fun d => decide (d = a)) q e := he.mono (fun u hu1 hu2 => .base hu1 hu2) fun u _ hu => by simp only [Bool.and_eq_true] at hu; exact hu.1
            have hce : Reach x y z (fun d => decide (d = c)) q e := .step hre' (by rw [apart_comm]; exact hab) he.inBox hqe
            have hea := (Reach.symm ha hqa hrea).1
            have := (reach_iff (c := a)).2 (hce.trans hea)
            rw [hna] at this; cases this
        · intro hr
          exact hr.mono (fun u hu1 hu2 => .base hu1 hu2) fun u _ hu => by simp only [Bool.and_eq_true] at hu; exact hu.1
      refine ⟨fun l hl => ?_, fun d hd hq => ?_⟩
      · rcases List.mem_cons.1 hl with rfl | hl
        · exact ⟨c, hcq.1, hcq.2, rfl⟩
        · obtain ⟨a, ha1, ha2, ha3⟩ := h1 l hl
          simp only [Bool.and_eq_true, Bool.not_eq_true'] at ha2
          exact ⟨a, ha1, ha2.1, by rw [ha3]; exact (pick_congr hS fun d _ => key a ha1 ha2.1 ha2.2 d).symm⟩
      · cases hh : reach x y z (fun d => decide (d = c)) q d with
        | true => exact ⟨_, List.mem_cons_self .., (mem_pick hS).2 ⟨hd, hh⟩⟩
        | false =>
          obtain ⟨l, hl1, hl2⟩ := h2 d hd (by simp only [hq, hh]; rfl)
          exact ⟨l, List.mem_cons_of_mem _ hl1, hl2⟩

/-- What stands of a set. -/
noncomputable def stand (x y z : Int) (q : Cell → Bool) : Cell → Bool := reach x y z (fun e => q e && decide (e.c = 0)) q
theorem stand_part {f : Nat} {q : Cell → Bool} (hf : (pick x y z q).length < f) {l : List Cell} (hl : l ∈ parts x y z f q) {d : Cell} (hd : d ∈ l) : d.inBox x y z ∧ q d = true ∧ (stand x y z q d = true ↔ ∃ e ∈ l, e.c = 0) := by
  obtain ⟨c, h1, h2, rfl⟩ := (parts_spec hS f q hf).1 l hl
  obtain ⟨hd1, hd2⟩ := (mem_pick hS).1 hd
  have hrd := reach_iff.1 hd2
  have hqd := (Reach.symm h1 h2 hrd)
  refine ⟨hd1, hqd.2, ?_⟩
  unfold stand
  rw [reach_iff]
  constructor
  · intro hr
    -- a floor cell that reaches d
    have : ∃ e, e.inBox x y z ∧ q e = true ∧ e.c = 0 ∧ Reach x y z (fun u => decide (u = e)) q d := by
      refine hr.ind (P := fun d => ∃ e, e.inBox x y z ∧ q e = true ∧ e.c = 0 ∧ Reach x y z (fun u => decide (u = e)) q d) (fun e he1 he2 => ?_) (fun a b ha hab hb hq => ?_)
      · simp only [Bool.and_eq_true, decide_eq_true_eq] at he2
        exact ⟨e, he1, he2.1, he2.2, .base he1 (by simp)⟩
      · obtain ⟨e, k1, k2, k3, k4⟩ := ha
        exact ⟨e, k1, k2, k3, .step k4 hab hb hq⟩
    obtain ⟨e, k1, k2, k3, k4⟩ := this
    exact ⟨e, (mem_pick hS).2 ⟨k1, reach_iff.2 (hrd.trans (Reach.symm k1 k2 k4).1)⟩, k3⟩
  · rintro ⟨e, he, he0⟩
    obtain ⟨he1, he2⟩ := (mem_pick hS).1 he
    have hre := reach_iff.1 he2
    have hqe := Reach.symm h1 h2 hre
    have : Reach x y z (fun u => decide (u = e)) q d := hqe.1.trans hrd
    exact this.mono (fun u hu1 hu2 => by rw [of_decide_eq_true hu2]; exact .base he1 (by simp [hqe.2, he0])) fun _ _ h => h
/-- The cells that stand, or those that hang. -/
noncomputable def parted (x y z : Int) (q : Cell → Bool) (hang : Bool) : Cell → Bool := fun d => q d && (stand x y z q d != hang)
end

def floorOf (l : List Cell) : Bool := l.any fun e => decide (e.c = 0)
/-- The cells of the first k lists, of those on the floor, or of the others. -/
def selK (L : List (List Cell)) (hang : Bool) (k : Nat) : Cell → Bool := fun d => (L.take k).any fun l => (floorOf l != hang) && decide (d ∈ l)
theorem selK_succ {L : List (List Cell)} {hang : Bool} {k : Nat} (hk : k < L.length) (d : Cell) : selK L hang (k + 1) d = (selK L hang k d || ((floorOf (L.getD k []) != hang) && decide (d ∈ L.getD k []))) := by
  unfold selK
  rw [List.take_succ, List.getElem?_eq_getElem hk, List.any_append]
  simp [hk]
theorem selK_all {x y z : Int} (hS : Sides x y z) {f : Nat} {q : Cell → Bool} {hang : Bool} (hf : (pick x y z q).length < f) {d : Cell} (hd : d.inBox x y z) :
    selK (parts x y z f q) hang (parts x y z f q).length d = parted x y z q hang d := by
  have hsp := parts_spec hS f q hf
  unfold selK parted
  rw [List.take_length, Bool.eq_iff_iff, List.any_eq_true]
  have hfl : ∀ l ∈ parts x y z f q, d ∈ l → q d = true ∧ stand x y z q d = floorOf l := fun l hl hdl => by
    obtain ⟨_, h2, h3⟩ := stand_part hS hf hl hdl
    refine ⟨h2, ?_⟩
    rw [Bool.eq_iff_iff, h3]
    unfold floorOf
    simp [List.any_eq_true]
  constructor
  · rintro ⟨l, hl, h⟩
    simp only [Bool.and_eq_true, decide_eq_true_eq] at h
    obtain ⟨h1, h2⟩ := hfl l hl h.2
    rw [h1, h2, h.1]; rfl
  · intro h
    simp only [Bool.and_eq_true] at h
    obtain ⟨l, hl, hdl⟩ := hsp.2 d hd h.1
    obtain ⟨h1, h2⟩ := hfl l hl hdl
    refine ⟨l, hl, ?_⟩
    rw [h2] at h
    simp only [Bool.and_eq_true, decide_eq_true_eq]
    exact ⟨h.2, hdl⟩
theorem floor_take {l : List Cell} {j : Nat} (h : j < l.length) : floorOf (l.take (j + 1)) = (floorOf (l.take j) || decide ((l.getD j default).c = 0)) := by
  unfold floorOf
  rw [List.take_succ, List.getElem?_eq_getElem h, List.any_append]
  simp [h]
theorem parts_len {x y z : Int} : ∀ (f : Nat) (q : Cell → Bool), (parts x y z f q).length ≤ f
  | 0, _ => by simp [parts]
  | f + 1, q => by
    cases h : pick x y z q with
    | nil => simp [parts, h]
    | cons c rs => simp only [parts, h, List.length_cons]; have := parts_len f (x := x) (y := y) (z := z) fun d => q d && !reach x y z (fun d => decide (d = c)) q d; omega
end Go.Ab

/- Contracts: the reference's cubes that stand or hang. -/
namespace Go.Ab
open Go
set_option linter.unusedSimpArgs false
set_option linter.unusedVariables false

theorem h_l7Parted {x y z : Int} {t : Nat} {w hang : Bool} {cs : List Cell} {M : Mem} (h : Live M t (.row (triL cs) w 3)) (hH : HeapOK x y z cs) :
    CallsTo PG F.spec_l7Parted [.agg [.I x, .I y, .I z, .ref t 0 cs.length], .B hang] M (.ref M.length 0 (pick x y z (parted x y z (fun d => decide (d ∈ cs)) hang)).length) (M ++ [some (.row (triL (pick x y z (parted x y z (fun d => decide (d ∈ cs)) hang))) true 3)]) := by
  have hS := hH.1
  have hn := hH.len
  have ht := h.lt
  refine calls_run K.spec_l7Parted rfl ?_
  simp (disch := omega) only [C.spec_l7Parted, ↓SXd, SXu, slBounds, ↓sop, ↓aop, ↓reduceIte, LV.cells, AOp.dst, LV.I, LV.B, LV.U, LV.S, LV.nil, Nat.reduceEqDiff, Nat.reduceAdd, Nat.reduceMul, Nat.reduceSub, Nat.reduceLeDiff, Nat.reduceBEq, Nat.reduceDiv, Nat.reduceMod, Int.reduceToNat, Int.reduceLT, Int.reduceLE, Int.reduceAdd, Int.reduceSub, Int.reduceMul, Int.reduceEq, Int.reduceNeg, reduceCtorEq, resV, resAll, ARes.ev, LV.flat, ite_true, ite_false, exists_eq_left', exists_eq_left, keyOf, implies_true, fillC, capOf]
  refine callR_of (h_l2Parts (h.app) hH) ?_
  rintro _ N ⟨u, refs, rfl, hu, hrefs, hcss, hpre⟩
  simp (disch := omega) only [↓SXd, SXu, slBounds, ↓sop, ↓aop, ↓reduceIte, LV.cells, AOp.dst, LV.I, LV.B, LV.U, LV.S, LV.nil, Nat.reduceEqDiff, Nat.reduceAdd, Nat.reduceMul, Nat.reduceSub, Nat.reduceLeDiff, Nat.reduceBEq, Nat.reduceDiv, Nat.reduceMod, Int.reduceToNat, Int.reduceLT, Int.reduceLE, Int.reduceAdd, Int.reduceSub, Int.reduceMul, Int.reduceEq, Int.reduceNeg, reduceCtorEq, resV, resAll, ARes.ev, LV.flat, ite_true, ite_false, exists_eq_left', exists_eq_left, keyOf, implies_true, fillC, capOf]
  have b0 : Live N M.length (.row [.I x, .I y, .I z, .ref t 0 cs.length] true 0) := Live.new.pre hpre
  have hN1 : N[M.length + 1]? = some none := by rw [hpre.2 (M.length + 1) (by simp), at_j]; rfl
  have hNl : M.length + 2 ≤ N.length := by have := hpre.1; simpa using this
  have hpM : Pre M N := (Pre.app _ _).trans hpre
  have hu' : M.length + 2 ≤ u := by simpa using hu
  have hcss' : Css N (M.length + 2) N.length refs (parts x y z 65 fun d => decide (d ∈ cs)) := by simpa using hcss
  have hz : (N.set (M.length + 1) (some (Blk.row [.val (.int .i64 0), .val (.int .i64 0), .val (.int .i64 0), .val (.slice none 0 0)] true 0)))[M.length + 1]? = some (some (Blk.row [.val (.int .i64 0), .val (.int .i64 0), .val (.int .i64 0), .val (.slice none 0 0)] true 0)) := by rw [List.getElem?_set_self (by omega)]
  have hs : (N.set (M.length + 1) (some (Blk.row [.val (.int .i64 0), .val (.int .i64 0), .val (.int .i64 0), .val (.slice none 0 0)] true 0))).set (M.length + 1) none = N := by
    rw [List.set_set]
    apply List.ext_getElem?
    intro i
    by_cases e : M.length + 1 = i
    · subst e; rw [List.getElem?_set_self (by omega), hN1]
    · rw [List.getElem?_set_ne e]
  refine andK_mk (fun b e => by rw [← e]; exact b0.set_ne (by omega)) ?_
  rw [hs]
  refine callK_of h_l2Empty ?_
  simp (disch := omega) only [hz, ↓SXd, SXu, slBounds, ↓sop, ↓aop, ↓reduceIte, LV.cells, AOp.dst, LV.I, LV.B, LV.U, LV.S, LV.nil, Nat.reduceEqDiff, Nat.reduceAdd, Nat.reduceMul, Nat.reduceSub, Nat.reduceLeDiff, Nat.reduceBEq, Nat.reduceDiv, Nat.reduceMod, Int.reduceToNat, Int.reduceLT, Int.reduceLE, Int.reduceAdd, Int.reduceSub, Int.reduceMul, Int.reduceEq, Int.reduceNeg, reduceCtorEq, resV, resAll, ARes.ev, LV.flat, ite_true, ite_false, exists_eq_left', exists_eq_left, keyOf, implies_true, fillC, capOf]
  have c1 : Live ((N ++ [some (Blk.row [] true 3)]).set (M.length + 1) (some (Blk.row [.val (.int .i64 0), .val (.int .i64 0), .val (.int .i64 0), .val (.slice none 0 0)] true 0))) (M.length + 1) (.row [.val (.int .i64 0), .val (.int .i64 0), .val (.int .i64 0), .val (.slice none 0 0)] true 0) := by
    unfold Live; rw [List.getElem?_set_self (by simp; omega)]
  have c2 : Live ((N ++ [some (Blk.row [] true 3)]).set (M.length + 1) (some (Blk.row [.val (.int .i64 0), .val (.int .i64 0), .val (.int .i64 0), .val (.slice none 0 0)] true 0))) N.length (.row [] true 3) := Live.new.set_ne (by omega)
  have c3 : Live ((N ++ [some (Blk.row [] true 3)]).set (M.length + 1) (some (Blk.row [.val (.int .i64 0), .val (.int .i64 0), .val (.int .i64 0), .val (.slice none 0 0)] true 0))) u (.row refs true 1) := hrefs.app.set_ne (by omega)
  have c4 : Pre M ((N ++ [some (Blk.row [] true 3)]).set (M.length + 1) (some (Blk.row [.val (.int .i64 0), .val (.int .i64 0), .val (.int .i64 0), .val (.slice none 0 0)] true 0))) := (hpM.app').set (by omega)
  have c5 : Css ((N ++ [some (Blk.row [] true 3)]).set (M.length + 1) (some (Blk.row [.val (.int .i64 0), .val (.int .i64 0), .val (.int .i64 0), .val (.slice none 0 0)] true 0))) (M.length + 2) N.length refs (parts x y z 65 fun d => decide (d ∈ cs)) :=
    (hcss'.pre (Pre.app _ _)).keep (t := M.length + 1) (.inl (.inr (by omega))) fun v hv _ => List.getElem?_set_ne (fun e => hv e.symm)
  generalize (N ++ [some (Blk.row [] true 3)]).set (M.length + 1) (some (Blk.row [.val (.int .i64 0), .val (.int .i64 0), .val (.int .i64 0), .val (.slice none 0 0)] true 0)) = N1 at c1 c2 c3 c4 c5 ⊢
  refine memK_box c1 (by simp) fun N2 k1 k2 k3 => ?_
  have hul := hrefs.lt
  have d2 := live_step c2 (by omega) k3
  have d3 := live_step c3 (by omega) k3
  have d4 := pre_step c4 (by omega) (j := 0) k1 k3
  have d5 := c5.keep (.inl (.inr (by omega))) k3
  have hlen := hcss'.len
  have hall := fun d hd => selK_all hS (f := 65) (q := fun d => decide (d ∈ cs)) (hang := hang) (by rw [← hH.pick]; omega) (d := d) hd
  have hpin := fun l hl => (parts_spec hS 65 (fun d => decide (d ∈ cs)) (by rw [← hH.pick]; omega)).1 l hl
  have hLl := parts_len (x := x) (y := y) (z := z) 65 fun d => decide (d ∈ cs)
  generalize parts x y z 65 (fun d => decide (d ∈ cs)) = L at hlen hall d5 hpin hLl
  generalize hNN : N.length = nn at d2 d5 hul hNl k2
  clear c1 c2 c3 c4 c5 hs hz k1 k3 hcss hcss' hrefs b0 hN1 hpM hpre hu
  have hin : ∀ l ∈ L, (∀ c ∈ l, c.inBox x y z) ∧ l.length ≤ 64 := fun l hl => by
    obtain ⟨c, _, _, rfl⟩ := hpin l hl
    exact ⟨fun d hd => ((mem_pick hS).1 hd).1, pick_len hS _⟩
  clear hpin
  simp (disch := omega) only [↓SXd, SXu, slBounds, ↓sop, ↓aop, ↓reduceIte, LV.cells, AOp.dst, LV.I, LV.B, LV.U, LV.S, LV.nil, Nat.reduceEqDiff, Nat.reduceAdd, Nat.reduceMul, Nat.reduceSub, Nat.reduceLeDiff, Nat.reduceBEq, Nat.reduceDiv, Nat.reduceMod, Int.reduceToNat, Int.reduceLT, Int.reduceLE, Int.reduceAdd, Int.reduceSub, Int.reduceMul, Int.reduceEq, Int.reduceNeg, reduceCtorEq, resV, resAll, ARes.ev, LV.flat, ite_true, ite_false, exists_eq_left', exists_eq_left, keyOf, implies_true, fillC, capOf]
  refine ev_loop (fun m fr M' => ∃ (k tO : Nat), k + m = L.length ∧ Pre M M' ∧ Live M' (M.length + 1) (.row [.I x, .I y, .I z, .ref tO 0 (pick x y z (selK L hang k)).length] true 0) ∧ Live M' tO (.row (triL (pick x y z (selK L hang k))) true 3) ∧ M.length ≤ tO ∧ Live M' u (.row refs true 1) ∧ Css M' (M.length + 2) nn refs L ∧
    fr 1 = .B hang ∧ fr 5 = .ref u 0 refs.length ∧ fr 6 = .ptr (M.length + 1) 0 ∧ fr 7 = .I k) L.length
    ⟨0, nn, by omega, d4, ?_, ?_, by omega, d3, d5, rfl, rfl, rfl, rfl⟩ ?_
  · rw [show pick x y z (selK L hang 0) = [] by unfold pick; rw [List.filter_eq_nil_iff]; simp [selK]]; exact k2
  · rw [show pick x y z (selK L hang 0) = [] by unfold pick; rw [List.filter_eq_nil_iff]; simp [selK]]; exact d2
  clear d2 d3 d4 d5 k2
  rintro m fr M' ⟨k, tO, hk, hpre, hob, hor, htO, hrefs, hcss, f1, f5, f6, f7⟩
  simp (disch := omega) only [f1, f5, f6, f7, ↓SXd, SXu, slBounds, ↓sop, ↓aop, ↓reduceIte, LV.cells, AOp.dst, LV.I, LV.B, LV.U, LV.S, LV.nil, Nat.reduceEqDiff, Nat.reduceAdd, Nat.reduceMul, Nat.reduceSub, Nat.reduceLeDiff, Nat.reduceBEq, Nat.reduceDiv, Nat.reduceMod, Int.reduceToNat, Int.reduceLT, Int.reduceLE, Int.reduceAdd, Int.reduceSub, Int.reduceMul, Int.reduceEq, Int.reduceNeg, reduceCtorEq, resV, resAll, ARes.ev, LV.flat, ite_true, ite_false, exists_eq_left', exists_eq_left, keyOf, implies_true, fillC, capOf]
  refine condC_dec (fun hlt => ?_) (fun hlt => ?_)
  rotate_left
  · simp (disch := omega) only [f1, f5, f6, f7, hob.cell, ↓SXd, SXu, slBounds, ↓sop, ↓aop, ↓reduceIte, LV.cells, AOp.dst, LV.I, LV.B, LV.U, LV.S, LV.nil, Nat.reduceEqDiff, Nat.reduceAdd, Nat.reduceMul, Nat.reduceSub, Nat.reduceLeDiff, Nat.reduceBEq, Nat.reduceDiv, Nat.reduceMod, Int.reduceToNat, Int.reduceLT, Int.reduceLE, Int.reduceAdd, Int.reduceSub, Int.reduceMul, Int.reduceEq, Int.reduceNeg, reduceCtorEq, resV, resAll, ARes.ev, LV.flat, ite_true, ite_false, exists_eq_left', exists_eq_left, keyOf, implies_true, fillC, capOf]
    have hkL : k = L.length := by omega
    subst hkL
    rw [pick_congr hS hall] at hor ⊢
    exact cmp_keepL hpre htO hor (triL_lo _) (by simp [rn, rn0, rn1])
  · have hkl : k < L.length := by omega
    obtain ⟨hl1, hl2⟩ := hin _ (getD_mem' (d := []) hkl)
    obtain ⟨v, v1, v2, v3, v4⟩ := hcss.get hkl
    simp (disch := omega) only [f1, f5, f6, f7, ↓SXd, SXu, slBounds, ↓sop, ↓aop, ↓reduceIte, LV.cells, AOp.dst, LV.I, LV.B, LV.U, LV.S, LV.nil, Nat.reduceEqDiff, Nat.reduceAdd, Nat.reduceMul, Nat.reduceSub, Nat.reduceLeDiff, Nat.reduceBEq, Nat.reduceDiv, Nat.reduceMod, Int.reduceToNat, Int.reduceLT, Int.reduceLE, Int.reduceAdd, Int.reduceSub, Int.reduceMul, Int.reduceEq, Int.reduceNeg, reduceCtorEq, resV, resAll, ARes.ev, LV.flat, ite_true, ite_false, exists_eq_left', exists_eq_left, keyOf, implies_true, fillC, capOf]
    refine ev_loop (fun m2 fr N => ∃ j : Nat, j + m2 = (L.getD k []).length ∧ N = M' ∧ fr 1 = .B hang ∧ fr 5 = .ref u 0 refs.length ∧ fr 6 = .ptr (M.length + 1) 0 ∧ fr 7 = .I k ∧ fr 8 = .B (floorOf ((L.getD k []).take j)) ∧ fr 9 = .I j) (L.getD k []).length
      ⟨0, by omega, rfl, f1, f5, f6, f7, rfl, rfl⟩ ?_
    rintro m2 fr N ⟨j, hj, rfl, f1, f5, f6, f7, f8, f9⟩
    simp (disch := omega) only [f1, f5, f6, f7, f8, f9, hrefs.cell, v3, ↓SXd, SXu, slBounds, ↓sop, ↓aop, ↓reduceIte, LV.cells, AOp.dst, LV.I, LV.B, LV.U, LV.S, LV.nil, Nat.reduceEqDiff, Nat.reduceAdd, Nat.reduceMul, Nat.reduceSub, Nat.reduceLeDiff, Nat.reduceBEq, Nat.reduceDiv, Nat.reduceMod, Int.reduceToNat, Int.reduceLT, Int.reduceLE, Int.reduceAdd, Int.reduceSub, Int.reduceMul, Int.reduceEq, Int.reduceNeg, reduceCtorEq, resV, resAll, ARes.ev, LV.flat, ite_true, ite_false, exists_eq_left', exists_eq_left, keyOf, implies_true, fillC, capOf]
    refine condC_dec (fun hlt2 => ?_) (fun hlt2 => ?_)
    · have hjl : j < (L.getD k []).length := by omega
      have hst := floor_take hjl
      have hv4 : Tri N v 0 (L.getD k []) := v4.has
      have hg := hv4.get_c hjl
      rw [Nat.zero_add] at hg
      cases hfl : floorOf ((L.getD k []).take j) with
      | true =>
        rw [hfl, Bool.true_or] at hst
        rw [hfl] at f8
        simp (disch := omega) only [f1, f5, f6, f7, f8, f9, hrefs.cell, v3, ↓SXd, SXu, slBounds, ↓sop, ↓aop, ↓reduceIte, LV.cells, AOp.dst, LV.I, LV.B, LV.U, LV.S, LV.nil, Nat.reduceEqDiff, Nat.reduceAdd, Nat.reduceMul, Nat.reduceSub, Nat.reduceLeDiff, Nat.reduceBEq, Nat.reduceDiv, Nat.reduceMod, Int.reduceToNat, Int.reduceLT, Int.reduceLE, Int.reduceAdd, Int.reduceSub, Int.reduceMul, Int.reduceEq, Int.reduceNeg, reduceCtorEq, resV, resAll, ARes.ev, LV.flat, ite_true, ite_false, exists_eq_left', exists_eq_left, keyOf, implies_true, fillC, capOf]
        exact ⟨m2 - 1, by omega, j + 1, by omega, rfl, f1, f5, f6, f7, by rw [hst]; rfl, eqI (natI _)⟩
      | false =>
        rw [hfl, Bool.false_or] at hst
        rw [hfl] at f8
        simp (disch := omega) only [f1, f5, f6, f7, f8, f9, hrefs.cell, v3, hg, ↓SXd, SXu, slBounds, ↓sop, ↓aop, ↓reduceIte, LV.cells, AOp.dst, LV.I, LV.B, LV.U, LV.S, LV.nil, Nat.reduceEqDiff, Nat.reduceAdd, Nat.reduceMul, Nat.reduceSub, Nat.reduceLeDiff, Nat.reduceBEq, Nat.reduceDiv, Nat.reduceMod, Int.reduceToNat, Int.reduceLT, Int.reduceLE, Int.reduceAdd, Int.reduceSub, Int.reduceMul, Int.reduceEq, Int.reduceNeg, reduceCtorEq, resV, resAll, ARes.ev, LV.flat, ite_true, ite_false, exists_eq_left', exists_eq_left, keyOf, implies_true, fillC, capOf]
        exact ⟨m2 - 1, by omega, j + 1, by omega, rfl, f1, f5, f6, f7, by rw [hst]; rfl, eqI (natI _)⟩
    · have hje : j = (L.getD k []).length := by omega
      subst hje
      rw [List.take_length] at f8
      simp (disch := omega) only [f1, f5, f6, f7, f8, f9, ↓SXd, SXu, slBounds, ↓sop, ↓aop, ↓reduceIte, LV.cells, AOp.dst, LV.I, LV.B, LV.U, LV.S, LV.nil, Nat.reduceEqDiff, Nat.reduceAdd, Nat.reduceMul, Nat.reduceSub, Nat.reduceLeDiff, Nat.reduceBEq, Nat.reduceDiv, Nat.reduceMod, Int.reduceToNat, Int.reduceLT, Int.reduceLE, Int.reduceAdd, Int.reduceSub, Int.reduceMul, Int.reduceEq, Int.reduceNeg, reduceCtorEq, resV, resAll, ARes.ev, LV.flat, ite_true, ite_false, exists_eq_left', exists_eq_left, keyOf, implies_true, fillC, capOf]
      have hsucc := selK_succ (hang := hang) hkl
      have hpo := fun j => pick_ok hS fun d => selK L hang k d || decide (d ∈ (L.getD k []).take j)
      by_cases hfh : floorOf (L.getD k []) = hang
      · refine ev_loop (fun m2 fr N' => N' = N ∧ fr 1 = .B hang ∧ fr 5 = .ref u 0 refs.length ∧ fr 6 = .ptr (M.length + 1) 0 ∧ fr 7 = .I k ∧ fr 8 = .B hang ∧ fr 10 = .I 0) 0 ⟨rfl, f1, f5, f6, f7, by rw [← hfh]; exact f8, rfl⟩ ?_
        clear f1 f5 f6 f7 f8 f9
        rintro m2 fr N' ⟨rfl, f1, f5, f6, f7, f8, f10⟩
        have hsame : pick x y z (selK L hang (k + 1)) = pick x y z (selK L hang k) := pick_congr hS fun d _ => by rw [hsucc, hfh]; simp
        by_cases hz : 0 < (L.getD k []).length
        · simp (disch := omega) only [f1, f5, f6, f7, f8, f10, hrefs.cell, v3, ↓SXd, SXu, slBounds, ↓sop, ↓aop, ↓reduceIte, LV.cells, AOp.dst, LV.I, LV.B, LV.U, LV.S, LV.nil, Nat.reduceEqDiff, Nat.reduceAdd, Nat.reduceMul, Nat.reduceSub, Nat.reduceLeDiff, Nat.reduceBEq, Nat.reduceDiv, Nat.reduceMod, Int.reduceToNat, Int.reduceLT, Int.reduceLE, Int.reduceAdd, Int.reduceSub, Int.reduceMul, Int.reduceEq, Int.reduceNeg, reduceCtorEq, resV, resAll, ARes.ev, LV.flat, ite_true, ite_false, exists_eq_left', exists_eq_left, keyOf, implies_true, fillC, capOf]
          exact ⟨m - 1, by omega, k + 1, tO, by omega, hpre, by rw [hsame]; exact hob, by rw [hsame]; exact hor, htO, hrefs, hcss, f1, f5, f6, eqI (natI _)⟩
        · simp (disch := omega) only [f1, f5, f6, f7, f8, f10, hrefs.cell, v3, ↓SXd, SXu, slBounds, ↓sop, ↓aop, ↓reduceIte, LV.cells, AOp.dst, LV.I, LV.B, LV.U, LV.S, LV.nil, Nat.reduceEqDiff, Nat.reduceAdd, Nat.reduceMul, Nat.reduceSub, Nat.reduceLeDiff, Nat.reduceBEq, Nat.reduceDiv, Nat.reduceMod, Int.reduceToNat, Int.reduceLT, Int.reduceLE, Int.reduceAdd, Int.reduceSub, Int.reduceMul, Int.reduceEq, Int.reduceNeg, reduceCtorEq, resV, resAll, ARes.ev, LV.flat, ite_true, ite_false, exists_eq_left', exists_eq_left, keyOf, implies_true, fillC, capOf]
          exact ⟨m - 1, by omega, k + 1, tO, by omega, hpre, by rw [hsame]; exact hob, by rw [hsame]; exact hor, htO, hrefs, hcss, f1, f5, f6, eqI (natI _)⟩
      · refine ev_loop (fun m2 fr N' => ∃ (j tO : Nat), j + m2 = (L.getD k []).length ∧ Pre M N' ∧ Live N' (M.length + 1) (.row [.I x, .I y, .I z, .ref tO 0 (pick x y z fun d => selK L hang k d || decide (d ∈ (L.getD k []).take j)).length] true 0) ∧
          Live N' tO (.row (triL (pick x y z fun d => selK L hang k d || decide (d ∈ (L.getD k []).take j))) true 3) ∧ M.length ≤ tO ∧ Live N' u (.row refs true 1) ∧ Css N' (M.length + 2) nn refs L ∧
          fr 1 = .B hang ∧ fr 5 = .ref u 0 refs.length ∧ fr 6 = .ptr (M.length + 1) 0 ∧ fr 7 = .I k ∧ fr 8 = .B (floorOf (L.getD k [])) ∧ fr 10 = .I j) (L.getD k []).length
          ⟨0, tO, by omega, hpre, by simpa using hob, by simpa using hor, htO, hrefs, hcss, f1, f5, f6, f7, f8, rfl⟩ ?_
        have hnn' := hob.lt
        clear f1 f5 f6 f7 f8 f9 hpre hob hor htO hrefs hcss v3 v4
        rintro m2 fr N' ⟨j, tO, hj, hpre, hob, hor, htO, hrefs, hcss, f1, f5, f6, f7, f8, f10⟩
        obtain ⟨v, v1, v2, v3, v4⟩ := hcss.get hkl
        have hne : (floorOf (L.getD k []) == hang) = false := by simpa using hfh
        by_cases hz : j < (L.getD k []).length
        · have hlc := v4.tri0 hz
          have hic := hl1 _ (getD_mem' (d := default) hz)
          have hst : pick x y z (fun d => decide (d ∈ pick x y z fun d => selK L hang k d || decide (d ∈ (L.getD k []).take j)) || decide (d = (L.getD k []).getD j default)) = pick x y z fun d => selK L hang k d || decide (d ∈ (L.getD k []).take (j + 1)) := pick_congr hS fun d hd => by
            rw [← take_dec hz, ← Bool.or_assoc]
            congr 1
            rw [Bool.eq_iff_iff, decide_eq_true_iff, mem_pick hS]
            exact ⟨fun h => h.2, fun h => ⟨hd, h⟩⟩
          simp (disch := omega) only [f1, f5, f6, f7, f8, f10, hrefs.cell, v3, hne, hob.cells, hlc, Cell.row, ↓SXd, SXu, slBounds, ↓sop, ↓aop, ↓reduceIte, LV.cells, AOp.dst, LV.I, LV.B, LV.U, LV.S, LV.nil, Nat.reduceEqDiff, Nat.reduceAdd, Nat.reduceMul, Nat.reduceSub, Nat.reduceLeDiff, Nat.reduceBEq, Nat.reduceDiv, Nat.reduceMod, Int.reduceToNat, Int.reduceLT, Int.reduceLE, Int.reduceAdd, Int.reduceSub, Int.reduceMul, Int.reduceEq, Int.reduceNeg, reduceCtorEq, resV, resAll, ARes.ev, LV.flat, ite_true, ite_false, exists_eq_left', exists_eq_left, keyOf, implies_true, fillC, capOf]
          refine callH_of (h_l2With hor (hpo j) hic) ?_
          intro tO2 N2 htO2 hp2 hor2
          rw [hst] at hor2 ⊢
          simp (disch := omega) only [f1, f5, f6, f7, f8, f10, ↓SXd, SXu, slBounds, ↓sop, ↓aop, ↓reduceIte, LV.cells, AOp.dst, LV.I, LV.B, LV.U, LV.S, LV.nil, Nat.reduceEqDiff, Nat.reduceAdd, Nat.reduceMul, Nat.reduceSub, Nat.reduceLeDiff, Nat.reduceBEq, Nat.reduceDiv, Nat.reduceMod, Int.reduceToNat, Int.reduceLT, Int.reduceLE, Int.reduceAdd, Int.reduceSub, Int.reduceMul, Int.reduceEq, Int.reduceNeg, reduceCtorEq, resV, resAll, ARes.ev, LV.flat, ite_true, ite_false, exists_eq_left', exists_eq_left, keyOf, implies_true, fillC, capOf]
          refine memK_box (hob.pre hp2) (by simp) fun N3 k1 k2 k3 => ?_
          have hl1 := hob.lt
          have hp21 := hp2.1
          simp (disch := omega) only [f1, f5, f6, f7, f8, f10, ↓SXd, SXu, slBounds, ↓sop, ↓aop, ↓reduceIte, LV.cells, AOp.dst, LV.I, LV.B, LV.U, LV.S, LV.nil, Nat.reduceEqDiff, Nat.reduceAdd, Nat.reduceMul, Nat.reduceSub, Nat.reduceLeDiff, Nat.reduceBEq, Nat.reduceDiv, Nat.reduceMod, Int.reduceToNat, Int.reduceLT, Int.reduceLE, Int.reduceAdd, Int.reduceSub, Int.reduceMul, Int.reduceEq, Int.reduceNeg, reduceCtorEq, resV, resAll, ARes.ev, LV.flat, ite_true, ite_false, exists_eq_left', exists_eq_left, keyOf, implies_true, fillC, capOf]
          exact ⟨m2 - 1, by omega, j + 1, tO2, by omega, pre_step (hpre.trans hp2) (by omega) (j := 0) k1 k3, k2, live_step hor2 (by omega) k3, by have := hpre.1; omega, live_step (hrefs.pre hp2) (hrefs.ne_esz hob (by decide)) k3, (hcss.pre hp2).keep (.inl (.inr (by omega))) k3, f1, f5, f6, f7, f8, eqI (natI _)⟩
        · have hje : j = (L.getD k []).length := by omega
          subst hje
          have hsame : pick x y z (fun d => selK L hang k d || decide (d ∈ (L.getD k []).take (L.getD k []).length)) = pick x y z (selK L hang (k + 1)) := pick_congr hS fun d _ => by
            rw [hsucc, List.take_length]
            have : (floorOf (L.getD k []) != hang) = true := by simpa using hfh
            rw [this, Bool.true_and]
          rw [hsame] at hob hor
          simp (disch := omega) only [f1, f5, f6, f7, f8, f10, hrefs.cell, v3, ↓SXd, SXu, slBounds, ↓sop, ↓aop, ↓reduceIte, LV.cells, AOp.dst, LV.I, LV.B, LV.U, LV.S, LV.nil, Nat.reduceEqDiff, Nat.reduceAdd, Nat.reduceMul, Nat.reduceSub, Nat.reduceLeDiff, Nat.reduceBEq, Nat.reduceDiv, Nat.reduceMod, Int.reduceToNat, Int.reduceLT, Int.reduceLE, Int.reduceAdd, Int.reduceSub, Int.reduceMul, Int.reduceEq, Int.reduceNeg, reduceCtorEq, resV, resAll, ARes.ev, LV.flat, ite_true, ite_false, exists_eq_left', exists_eq_left, keyOf, implies_true, fillC, capOf]
          exact ⟨m - 1, by omega, k + 1, tO, by omega, hpre, hob, hor, htO, hrefs, hcss, f1, f5, f6, eqI (natI _)⟩
end Go.Ab

/- The abstract code of some functions (written by a program of mine from the translation, by way of prepF). -/
namespace Go.Ab.C
open Go.Ab
def impl_box_near : AFn :=
  ⟨2, 36, [.tmp 4],
    .seq (.ops [(none, .box 2 (.t 0)),
       (none, .box 3 (.t 1)),
       (none, .mv 4 (.c (.U 0)))])
    (.seq (.ops [(none, .mv 5 (.c (.U 0)))])
     (.seq (.seq (.ops [(none, .mv 10 (.c (.I 0)))])
       (.block 0 (.loop (.seq (.ops [(none, .bin 11 .lss (.t 10) (.c (.I 3)))])
          (.seq (.cond (.t 11) (.skip)
            (.exit 0))
           (.seq (.block 1 (.seq (.ops [(none, .mv 12 (.t 10)),
                 (none, .mv 6 (.t 12))])
              (.seq (.ops [(none, .build 13 [(.I 0), (.I 0)] [(0, 1, (.c (.I (-1)))), (1, 1, (.c (.I 1)))]),
                  (none, .mv 14 (.c (.I 0)))])
               (.block 2 (.loop (.seq (.ops [(none, .bin 15 .lss (.t 14) (.c (.I 2)))])
                  (.seq (.cond (.t 15) (.skip)
                    (.exit 2))
                   (.seq (.block 3 (.seq (.ops [(none, .index 16 2 1 false (.t 13) (.t 14)),
                         (none, .mv 8 (.t 16))])
                      (.seq (.ops [(none, .loadN 17 3 (.t 3)),
                          (none, .alloc 9 [(.I 0), (.I 0), (.I 0)]),
                          (none, .store 3 (.t 9) (.t 17))])
                       (.seq (.ops [(none, .mv 18 (.t 6)),
                           (none, .idxA 19 3 1 (.t 9) (.t 18)),
                           (none, .load1 20 (.t 19)),
                           (none, .mv 21 (.t 8)),
                           (none, .bin 22 .add (.t 20) (.t 21)),
                           (none, .idxA 23 3 1 (.t 9) (.t 18)),
                           (none, .store 1 (.t 23) (.t 22))])
                        (.seq (.ops [(none, .loadN 24 3 (.t 2)),
                            (none, .loadN 25 3 (.t 9)),
                            (none, .call (some 26) F.impl_box_has [(.t 24), (.t 25)])])
                         (.cond (.t 26) (.ops [(none, .mv 27 (.t 5)),
                             (none, .loadN 28 3 (.t 2)),
                             (none, .loadN 29 3 (.t 9)),
                             (none, .call (some 30) F.impl_box_index [(.t 28), (.t 29)]),
                             (none, .bin 31 .shl (.c (.U 1)) (.t 30)),
                             (none, .bin 32 .or (.t 27) (.t 31)),
                             (none, .mv 5 (.t 32))])
                          (.skip)))))))
                    (.ops [(none, .bin 33 .add (.t 14) (.c (.I 1))),
                       (none, .mv 14 (.t 33))])))))))))
            (.ops [(none, .bin 34 .add (.t 10) (.c (.I 1))),
               (none, .mv 10 (.t 34))])))))))
      (.seq (.ops [(none, .mv 35 (.t 5)),
          (none, .mv 4 (.t 35))])
       (.ret))))⟩
def impl_box_grown : AFn :=
  ⟨3, 33, [.tmp 6],
    .seq (.ops [(none, .box 3 (.t 0)),
       (none, .mv 6 (.c (.U 0)))])
    (.block 0 (.loop (.block 1 (.seq (.ops [(none, .mv 9 (.t 1)),
           (none, .mv 7 (.t 9))])
        (.seq (.seq (.ops [(none, .loadN 10 3 (.t 3)),
             (none, .call (some 11) F.impl_box_size [(.t 10)]),
             (none, .mv 12 (.c (.I 0)))])
          (.block 2 (.loop (.seq (.ops [(none, .bin 13 .lss (.t 12) (.t 11))])
             (.seq (.cond (.t 13) (.skip)
               (.exit 2))
              (.seq (.block 3 (.seq (.ops [(none, .mv 14 (.t 12)),
                    (none, .mv 8 (.t 14))])
                 (.seq (.ops [(none, .mv 15 (.t 1)),
                     (none, .mv 16 (.t 8)),
                     (none, .call (some 17) F.impl_set_has [(.t 15), (.t 16)])])
                  (.cond (.t 17) (.draw [⟨(none, .mv 18 (.t 7)), [], []⟩,
                      ⟨(none, .loadN 19 3 (.t 3)), [], []⟩,
                      ⟨(none, .loadN 20 3 (.t 3)), [], []⟩,
                      ⟨(none, .mv 21 (.t 8)), [], []⟩,
                      ⟨(none, .mv 24 (.t 2)), [], []⟩,
                      ⟨(none, .call (some 22) F.impl_box_cell [(.t 20), (.t 21)]), [], [0, 1, 4]⟩,
                      ⟨(none, .call (some 23) F.impl_box_near [(.t 19), (.t 22)]), [], [0, 4]⟩,
                      ⟨(none, .bin 25 .and (.t 23) (.t 24)), [], []⟩,
                      ⟨(none, .bin 26 .or (.t 18) (.t 25)), [], []⟩,
                      ⟨(none, .mv 7 (.t 26)), [], []⟩])
                   (.skip)))))
               (.ops [(none, .bin 27 .add (.t 12) (.c (.I 1))),
                  (none, .mv 12 (.t 27))])))))))
         (.seq (.seq (.ops [(none, .mv 28 (.t 7)),
              (none, .mv 29 (.t 1)),
              (none, .bin 30 .eql (.t 28) (.t 29))])
           (.cond (.t 30) (.seq (.ops [(none, .mv 31 (.t 1)),
                (none, .mv 6 (.t 31))])
             (.ret))
            (.skip)))
          (.ops [(none, .mv 32 (.t 7)),
             (none, .mv 1 (.t 32))])))))))⟩
end Go.Ab.C

/- That the program has this code. -/
namespace Go.Ab.K
open Go Go.Ab
theorem impl_box_near : prepF Go.Proofs.Try.prog F.impl_box_near = some C.impl_box_near := by kernel_rfl
theorem impl_box_grown : prepF Go.Proofs.Try.prog F.impl_box_grown = some C.impl_box_grown := by kernel_rfl
end Go.Ab.K

/- Contracts: neighbours; what grows. -/
namespace Go.Ab
open Go
set_option linter.unusedSimpArgs false
set_option linter.unusedVariables false

/-- The first k neighbours of a cell. -/
def nbrK (c : Cell) (k : Nat) (e : Cell) : Bool := decide (e ∈ (nbrs c).take k)
theorem nbrK_step {c : Cell} {k : Nat} (hk : k < 6) (e : Cell) : nbrK c (k + 1) e = (nbrK c k e || decide (e = (nbrs c).getD k default)) := (take_dec (cs := nbrs c) (by simpa [nbrs] using hk)).symm

section
variable {x y z : Int} (hS : Sides x y z)
include hS
theorem g_nearSet {c : Cell} {M : Mem} (hc : c.inBox x y z) : CallsTo PG F.impl_box_near [.agg [.I x, .I y, .I z], .agg [.I c.a, .I c.b, .I c.c]] M (.W (bs x y z fun d => decide (apart c d = 1))) M := by
  obtain ⟨h1, h2, h3⟩ := id hc
  obtain ⟨hx, hy, hz⟩ := id hS
  refine calls_run K.impl_box_near rfl ?_
  simp (disch := omega) only [C.impl_box_near, ↓SXd, SXu, slBounds, ↓sop, ↓aop, ↓reduceIte, LV.cells, AOp.dst, LV.I, LV.B, LV.U, LV.S, LV.nil, Nat.reduceEqDiff, Nat.reduceAdd, Nat.reduceMul, Nat.reduceSub, Nat.reduceLeDiff, Nat.reduceBEq, Nat.reduceDiv, Nat.reduceMod, Int.reduceToNat, Int.reduceLT, Int.reduceLE, Int.reduceAdd, Int.reduceSub, Int.reduceMul, Int.reduceEq, Int.reduceNeg, reduceCtorEq, resV, resAll, ARes.ev, LV.flat, ite_true, ite_false, exists_eq_left', exists_eq_left, keyOf, implies_true, fillC, capOf]
  refine ev_loop (fun m fr M' => ∃ d : Nat, d + m = 3 ∧ Pre M M' ∧ Live M' M.length (.row [.I x, .I y, .I z] true 0) ∧ Live M' (M.length + 1) (.row [.I c.a, .I c.b, .I c.c] true 0) ∧
    fr 2 = .ptr M.length 0 ∧ fr 3 = .ptr (M.length + 1) 0 ∧ fr 5 = .W (bs x y z (nbrK c (2 * d))) ∧ fr 10 = .I d) 3
    ⟨0, rfl, Pre.app _ _, Live.new, Live.newj rfl, rfl, rfl, by rw [show bs x y z (nbrK c (2 * 0)) = 0#64 from (bs_zero hS).2 fun e _ => decide_eq_false (by simp)]; rfl, rfl⟩ ?_
  rintro m fr M' ⟨d, hd, hpre, hbox, hcell, f2, f3, f5, f10⟩
  simp (disch := omega) only [f2, f3, f5, f10, ↓SXd, SXu, slBounds, ↓sop, ↓aop, ↓reduceIte, LV.cells, AOp.dst, LV.I, LV.B, LV.U, LV.S, LV.nil, Nat.reduceEqDiff, Nat.reduceAdd, Nat.reduceMul, Nat.reduceSub, Nat.reduceLeDiff, Nat.reduceBEq, Nat.reduceDiv, Nat.reduceMod, Int.reduceToNat, Int.reduceLT, Int.reduceLE, Int.reduceAdd, Int.reduceSub, Int.reduceMul, Int.reduceEq, Int.reduceNeg, reduceCtorEq, resV, resAll, ARes.ev, LV.flat, ite_true, ite_false, exists_eq_left', exists_eq_left, keyOf, implies_true, fillC, capOf]
  refine condC_dec (fun hlt => ?_) (fun hlt => ?_)
  rotate_left
  · simp (disch := omega) only [f2, f3, f5, f10, ↓SXd, SXu, slBounds, ↓sop, ↓aop, ↓reduceIte, LV.cells, AOp.dst, LV.I, LV.B, LV.U, LV.S, LV.nil, Nat.reduceEqDiff, Nat.reduceAdd, Nat.reduceMul, Nat.reduceSub, Nat.reduceLeDiff, Nat.reduceBEq, Nat.reduceDiv, Nat.reduceMod, Int.reduceToNat, Int.reduceLT, Int.reduceLE, Int.reduceAdd, Int.reduceSub, Int.reduceMul, Int.reduceEq, Int.reduceNeg, reduceCtorEq, resV, resAll, ARes.ev, LV.flat, ite_true, ite_false, exists_eq_left', exists_eq_left, keyOf, implies_true, fillC, capOf]
    have : d = 3 := by omega
    subst this
    rw [show bs x y z (nbrK c (2 * 3)) = bs x y z fun d => decide (apart c d = 1) from (bs_eq hS).2 fun e _ => decide_eq_decide.2 (mem_nbrs (c := c) (d := e))]
    exact cmp_pre hpre rfl
  · simp (disch := omega) only [f2, f3, f5, f10, splice, ↓SXd, SXu, slBounds, ↓sop, ↓aop, ↓reduceIte, LV.cells, AOp.dst, LV.I, LV.B, LV.U, LV.S, LV.nil, Nat.reduceEqDiff, Nat.reduceAdd, Nat.reduceMul, Nat.reduceSub, Nat.reduceLeDiff, Nat.reduceBEq, Nat.reduceDiv, Nat.reduceMod, Int.reduceToNat, Int.reduceLT, Int.reduceLE, Int.reduceAdd, Int.reduceSub, Int.reduceMul, Int.reduceEq, Int.reduceNeg, reduceCtorEq, resV, resAll, ARes.ev, LV.flat, ite_true, ite_false, exists_eq_left', exists_eq_left, keyOf, implies_true, fillC, capOf]
    refine ev_loop (fun m2 fr N => ∃ j : Nat, j + m2 = 2 ∧ Pre M N ∧ Live N M.length (.row [.I x, .I y, .I z] true 0) ∧ Live N (M.length + 1) (.row [.I c.a, .I c.b, .I c.c] true 0) ∧
      fr 2 = .ptr M.length 0 ∧ fr 3 = .ptr (M.length + 1) 0 ∧ fr 5 = .W (bs x y z (nbrK c (2 * d + j))) ∧ fr 10 = .I d ∧ fr 6 = .I d ∧ fr 13 = .agg [.I (-1), .I 1] ∧ fr 14 = .I j) 2
      ⟨0, rfl, hpre, hbox, hcell, f2, f3, f5, f10, rfl, rfl, rfl⟩ ?_
    clear f2 f3 f5 f10 hpre hbox hcell
    rintro m2 fr N ⟨j, hj, hpre, hbox, hcell, f2, f3, f5, f10, f6, f13, f14⟩
    simp (disch := omega) only [f2, f3, f5, f10, f6, f13, f14, ↓SXd, SXu, slBounds, ↓sop, ↓aop, ↓reduceIte, LV.cells, AOp.dst, LV.I, LV.B, LV.U, LV.S, LV.nil, Nat.reduceEqDiff, Nat.reduceAdd, Nat.reduceMul, Nat.reduceSub, Nat.reduceLeDiff, Nat.reduceBEq, Nat.reduceDiv, Nat.reduceMod, Int.reduceToNat, Int.reduceLT, Int.reduceLE, Int.reduceAdd, Int.reduceSub, Int.reduceMul, Int.reduceEq, Int.reduceNeg, reduceCtorEq, resV, resAll, ARes.ev, LV.flat, ite_true, ite_false, exists_eq_left', exists_eq_left, keyOf, implies_true, fillC, capOf]
    refine condC_dec (fun hlt2 => ?_) (fun hlt2 => ?_)
    rotate_left
    · simp (disch := omega) only [f2, f3, f5, f10, f6, f13, f14, ↓SXd, SXu, slBounds, ↓sop, ↓aop, ↓reduceIte, LV.cells, AOp.dst, LV.I, LV.B, LV.U, LV.S, LV.nil, Nat.reduceEqDiff, Nat.reduceAdd, Nat.reduceMul, Nat.reduceSub, Nat.reduceLeDiff, Nat.reduceBEq, Nat.reduceDiv, Nat.reduceMod, Int.reduceToNat, Int.reduceLT, Int.reduceLE, Int.reduceAdd, Int.reduceSub, Int.reduceMul, Int.reduceEq, Int.reduceNeg, reduceCtorEq, resV, resAll, ARes.ev, LV.flat, ite_true, ite_false, exists_eq_left', exists_eq_left, keyOf, implies_true, fillC, capOf]
      have : j = 2 := by omega
      subst this
      exact ⟨m - 1, by omega, d + 1, by omega, hpre, hbox, hcell, f2, f3, f5, eqI (natI _)⟩
    · have hd3 : d = 0 ∨ d = 1 ∨ d = 2 := by omega
      have hj2 : j = 0 ∨ j = 1 := by omega
      have hlM := hcell.lt
      have key : ∀ e : Cell, (nbrs c).getD (2 * d + j) default = e → (e.inBox x y z → bs x y z (nbrK c (2 * d + j)) ||| 1#64 <<< (idx y z e).toNat = bs x y z (nbrK c (2 * d + (j + 1)))) ∧ (¬ e.inBox x y z → bs x y z (nbrK c (2 * d + j)) = bs x y z (nbrK c (2 * d + (j + 1)))) := by
        intro e he
        refine ⟨fun hin => ?_, fun hin => ?_⟩
        · rw [bs_one hS hin, bs_or hS]
          exact (bs_eq hS).2 fun f _ => by rw [show 2 * d + (j + 1) = 2 * d + j + 1 by omega, nbrK_step (by omega), he]
        · refine (bs_eq hS).2 fun f hf => ?_
          rw [show 2 * d + (j + 1) = 2 * d + j + 1 by omega, nbrK_step (by omega), he, decide_eq_false (fun h => hin (by rw [← h]; exact hf)), Bool.or_false]
      rcases hd3 with rfl | rfl | rfl <;> rcases hj2 with rfl | rfl
      all_goals
        simp only [Int.natCast_zero, Int.natCast_one, show (((2 : Nat)) : Int) = 2 from rfl] at f6 f10 f14
        obtain ⟨k1, k2⟩ := key _ rfl
        simp only [nbrs, List.getD_cons_zero, List.getD_cons_succ, Nat.reduceMul, Nat.reduceAdd] at k1 k2
        simp (disch := omega) only [f2, f3, f5, f10, f6, f13, f14, hcell.cells, hbox.cells, splice, hbox.app.cells, ↓SXd, SXu, slBounds, ↓sop, ↓aop, ↓reduceIte, LV.cells, AOp.dst, LV.I, LV.B, LV.U, LV.S, LV.nil, Nat.reduceEqDiff, Nat.reduceAdd, Nat.reduceMul, Nat.reduceSub, Nat.reduceLeDiff, Nat.reduceBEq, Nat.reduceDiv, Nat.reduceMod, Int.reduceToNat, Int.reduceLT, Int.reduceLE, Int.reduceAdd, Int.reduceSub, Int.reduceMul, Int.reduceEq, Int.reduceNeg, reduceCtorEq, resV, resAll, ARes.ev, LV.flat, ite_true, ite_false, exists_eq_left', exists_eq_left, keyOf, implies_true, fillC, capOf]
        refine callK_of (g_has hS) ?_
        simp (disch := omega) only [f2, f3, f5, f10, f6, f13, f14, hbox.app.cells, ↓SXd, SXu, slBounds, ↓sop, ↓aop, ↓reduceIte, LV.cells, AOp.dst, LV.I, LV.B, LV.U, LV.S, LV.nil, Nat.reduceEqDiff, Nat.reduceAdd, Nat.reduceMul, Nat.reduceSub, Nat.reduceLeDiff, Nat.reduceBEq, Nat.reduceDiv, Nat.reduceMod, Int.reduceToNat, Int.reduceLT, Int.reduceLE, Int.reduceAdd, Int.reduceSub, Int.reduceMul, Int.reduceEq, Int.reduceNeg, reduceCtorEq, resV, resAll, ARes.ev, LV.flat, ite_true, ite_false, exists_eq_left', exists_eq_left, keyOf, implies_true, fillC, capOf]
        refine condC_dec (fun hin => ?_) (fun hin => ?_)
        · have hix := (idx_in hS hin).1
          simp (disch := omega) only [f2, f3, f5, f10, f6, f13, f14, hbox.app.cells, ↓SXd, SXu, slBounds, ↓sop, ↓aop, ↓reduceIte, LV.cells, AOp.dst, LV.I, LV.B, LV.U, LV.S, LV.nil, Nat.reduceEqDiff, Nat.reduceAdd, Nat.reduceMul, Nat.reduceSub, Nat.reduceLeDiff, Nat.reduceBEq, Nat.reduceDiv, Nat.reduceMod, Int.reduceToNat, Int.reduceLT, Int.reduceLE, Int.reduceAdd, Int.reduceSub, Int.reduceMul, Int.reduceEq, Int.reduceNeg, reduceCtorEq, resV, resAll, ARes.ev, LV.flat, ite_true, ite_false, exists_eq_left', exists_eq_left, keyOf, implies_true, fillC, capOf]
          refine callK_of (g_index hS hin) ?_
          simp (disch := omega) only [f2, f3, f5, f10, f6, f13, f14, ↓SXd, SXu, slBounds, ↓sop, ↓aop, ↓reduceIte, LV.cells, AOp.dst, LV.I, LV.B, LV.U, LV.S, LV.nil, Nat.reduceEqDiff, Nat.reduceAdd, Nat.reduceMul, Nat.reduceSub, Nat.reduceLeDiff, Nat.reduceBEq, Nat.reduceDiv, Nat.reduceMod, Int.reduceToNat, Int.reduceLT, Int.reduceLE, Int.reduceAdd, Int.reduceSub, Int.reduceMul, Int.reduceEq, Int.reduceNeg, reduceCtorEq, resV, resAll, ARes.ev, LV.flat, ite_true, ite_false, exists_eq_left', exists_eq_left, keyOf, implies_true, fillC, capOf]
          rw [k1 hin]
          first
          | exact ⟨m2 - 1, by omega, 1, by omega, hpre.app', hbox.app, hcell.app, f2, f3, rfl, f10, f6, f13, rfl⟩
          | exact ⟨m2 - 1, by omega, 2, by omega, hpre.app', hbox.app, hcell.app, f2, f3, rfl, f10, f6, f13, rfl⟩
        · simp (disch := omega) only [f2, f3, f5, f10, f6, f13, f14, ↓SXd, SXu, slBounds, ↓sop, ↓aop, ↓reduceIte, LV.cells, AOp.dst, LV.I, LV.B, LV.U, LV.S, LV.nil, Nat.reduceEqDiff, Nat.reduceAdd, Nat.reduceMul, Nat.reduceSub, Nat.reduceLeDiff, Nat.reduceBEq, Nat.reduceDiv, Nat.reduceMod, Int.reduceToNat, Int.reduceLT, Int.reduceLE, Int.reduceAdd, Int.reduceSub, Int.reduceMul, Int.reduceEq, Int.reduceNeg, reduceCtorEq, resV, resAll, ARes.ev, LV.flat, ite_true, ite_false, exists_eq_left', exists_eq_left, keyOf, implies_true, fillC, capOf]
          rw [k2 hin] at f5
          first
          | exact ⟨m2 - 1, by omega, 1, by omega, hpre.app', hbox.app, hcell.app, f2, f3, f5, f10, f6, f13, rfl⟩
          | exact ⟨m2 - 1, by omega, 2, by omega, hpre.app', hbox.app, hcell.app, f2, f3, f5, f10, f6, f13, rfl⟩

theorem g_grown {p q : Cell → Bool} {M : Mem} : CallsTo PG F.impl_box_grown [.agg [.I x, .I y, .I z], .W (bs x y z p), .W (bs x y z q)] M (.W (bs x y z (reach x y z p q))) M := by
  have hv := vol_cast hS
  refine calls_run K.impl_box_grown rfl ?_
  simp (disch := omega) only [C.impl_box_grown, ↓SXd, SXu, slBounds, ↓sop, ↓aop, ↓reduceIte, LV.cells, AOp.dst, LV.I, LV.B, LV.U, LV.S, LV.nil, Nat.reduceEqDiff, Nat.reduceAdd, Nat.reduceMul, Nat.reduceSub, Nat.reduceLeDiff, Nat.reduceBEq, Nat.reduceDiv, Nat.reduceMod, Int.reduceToNat, Int.reduceLT, Int.reduceLE, Int.reduceAdd, Int.reduceSub, Int.reduceMul, Int.reduceEq, Int.reduceNeg, reduceCtorEq, resV, resAll, ARes.ev, LV.flat, ite_true, ite_false, exists_eq_left', exists_eq_left, keyOf, implies_true, fillC, capOf]
  refine ev_loop (fun m fr M' => ∃ r : Cell → Bool, rest x y z r = m ∧ (∀ c, c.inBox x y z → p c = true → r c = true) ∧ (∀ c, c.inBox x y z → r c = true → Reach x y z p q c) ∧ Pre M M' ∧ Live M' M.length (.row [.I x, .I y, .I z] true 0) ∧
    fr 1 = .W (bs x y z r) ∧ fr 2 = .W (bs x y z q) ∧ fr 3 = .ptr M.length 0) (rest x y z p)
    ⟨p, rfl, fun _ _ h => h, fun _ h1 h2 => .base h1 h2, Pre.app _ _, Live.new, rfl, rfl, rfl⟩ ?_
  rintro m fr M' ⟨r, hm, hr0, hr1, hpre, hbox, f1, f2, f3⟩
  simp (disch := omega) only [f1, f2, f3, hbox.cells, ↓SXd, SXu, slBounds, ↓sop, ↓aop, ↓reduceIte, LV.cells, AOp.dst, LV.I, LV.B, LV.U, LV.S, LV.nil, Nat.reduceEqDiff, Nat.reduceAdd, Nat.reduceMul, Nat.reduceSub, Nat.reduceLeDiff, Nat.reduceBEq, Nat.reduceDiv, Nat.reduceMod, Int.reduceToNat, Int.reduceLT, Int.reduceLE, Int.reduceAdd, Int.reduceSub, Int.reduceMul, Int.reduceEq, Int.reduceNeg, reduceCtorEq, resV, resAll, ARes.ev, LV.flat, ite_true, ite_false, exists_eq_left', exists_eq_left, keyOf, implies_true, fillC, capOf]
  refine callK_of (g_size hS) ?_
  simp (disch := omega) only [f1, f2, f3, ↓SXd, SXu, slBounds, ↓sop, ↓aop, ↓reduceIte, LV.cells, AOp.dst, LV.I, LV.B, LV.U, LV.S, LV.nil, Nat.reduceEqDiff, Nat.reduceAdd, Nat.reduceMul, Nat.reduceSub, Nat.reduceLeDiff, Nat.reduceBEq, Nat.reduceDiv, Nat.reduceMod, Int.reduceToNat, Int.reduceLT, Int.reduceLE, Int.reduceAdd, Int.reduceSub, Int.reduceMul, Int.reduceEq, Int.reduceNeg, reduceCtorEq, resV, resAll, ARes.ev, LV.flat, ite_true, ite_false, exists_eq_left', exists_eq_left, keyOf, implies_true, fillC, capOf]
  refine ev_loop (fun m2 fr N => ∃ k : Nat, k + m2 = vol x y z ∧ N = M' ∧ fr 1 = .W (bs x y z r) ∧ fr 2 = .W (bs x y z q) ∧ fr 3 = .ptr M.length 0 ∧ fr 7 = .W (bs x y z (growK y z r q k)) ∧ fr 11 = .I ((vol x y z : Nat) : Int) ∧ fr 12 = .I k) (vol x y z)
    ⟨0, by omega, rfl, f1, f2, f3, by rw [growK_zero]; rfl, rfl, rfl⟩ ?_
  clear f1 f2 f3
  rintro m2 fr N ⟨k, hk, rfl, f1, f2, f3, f7, f11, f12⟩
  simp (disch := omega) only [f1, f2, f3, f7, f11, f12, ↓SXd, SXu, slBounds, ↓sop, ↓aop, ↓reduceIte, LV.cells, AOp.dst, LV.I, LV.B, LV.U, LV.S, LV.nil, Nat.reduceEqDiff, Nat.reduceAdd, Nat.reduceMul, Nat.reduceSub, Nat.reduceLeDiff, Nat.reduceBEq, Nat.reduceDiv, Nat.reduceMod, Int.reduceToNat, Int.reduceLT, Int.reduceLE, Int.reduceAdd, Int.reduceSub, Int.reduceMul, Int.reduceEq, Int.reduceNeg, reduceCtorEq, resV, resAll, ARes.ev, LV.flat, ite_true, ite_false, exists_eq_left', exists_eq_left, keyOf, implies_true, fillC, capOf]
  refine condC_dec (fun hlt => ?_) (fun hlt => ?_)
  · simp (disch := omega) only [f1, f2, f3, f7, f11, f12, ↓SXd, SXu, slBounds, ↓sop, ↓aop, ↓reduceIte, LV.cells, AOp.dst, LV.I, LV.B, LV.U, LV.S, LV.nil, Nat.reduceEqDiff, Nat.reduceAdd, Nat.reduceMul, Nat.reduceSub, Nat.reduceLeDiff, Nat.reduceBEq, Nat.reduceDiv, Nat.reduceMod, Int.reduceToNat, Int.reduceLT, Int.reduceLE, Int.reduceAdd, Int.reduceSub, Int.reduceMul, Int.reduceEq, Int.reduceNeg, reduceCtorEq, resV, resAll, ARes.ev, LV.flat, ite_true, ite_false, exists_eq_left', exists_eq_left, keyOf, implies_true, fillC, capOf]
    refine callK_of (g_has_set (by omega)) ?_
    simp (disch := omega) only [f1, f2, f3, f7, f11, f12, ↓SXd, SXu, slBounds, ↓sop, ↓aop, ↓reduceIte, LV.cells, AOp.dst, LV.I, LV.B, LV.U, LV.S, LV.nil, Nat.reduceEqDiff, Nat.reduceAdd, Nat.reduceMul, Nat.reduceSub, Nat.reduceLeDiff, Nat.reduceBEq, Nat.reduceDiv, Nat.reduceMod, Int.reduceToNat, Int.reduceLT, Int.reduceLE, Int.reduceAdd, Int.reduceSub, Int.reduceMul, Int.reduceEq, Int.reduceNeg, reduceCtorEq, resV, resAll, ARes.ev, LV.flat, ite_true, ite_false, exists_eq_left', exists_eq_left, keyOf, implies_true, fillC, capOf]
    have hbit := bs_bit hS r k
    rw [decide_eq_true (show k < vol x y z by omega), Bool.true_and] at hbit
    rw [hbit]
    by_cases hp : r (cellAt y z k) = true
    · simp (disch := omega) only [f1, f2, f3, f7, f11, f12, hp, hbox.cells, ↓SXd, SXu, slBounds, ↓sop, ↓aop, ↓reduceIte, LV.cells, AOp.dst, LV.I, LV.B, LV.U, LV.S, LV.nil, Nat.reduceEqDiff, Nat.reduceAdd, Nat.reduceMul, Nat.reduceSub, Nat.reduceLeDiff, Nat.reduceBEq, Nat.reduceDiv, Nat.reduceMod, Int.reduceToNat, Int.reduceLT, Int.reduceLE, Int.reduceAdd, Int.reduceSub, Int.reduceMul, Int.reduceEq, Int.reduceNeg, reduceCtorEq, resV, resAll, ARes.ev, LV.flat, ite_true, ite_false, exists_eq_left', exists_eq_left, keyOf, implies_true, fillC, capOf]
      refine callK_of (g_cell hS (by omega) (by omega)) ?_
      simp (disch := omega) only [f1, f2, f3, f7, f11, f12, ↓SXd, SXu, slBounds, ↓sop, ↓aop, ↓reduceIte, LV.cells, AOp.dst, LV.I, LV.B, LV.U, LV.S, LV.nil, Nat.reduceEqDiff, Nat.reduceAdd, Nat.reduceMul, Nat.reduceSub, Nat.reduceLeDiff, Nat.reduceBEq, Nat.reduceDiv, Nat.reduceMod, Int.reduceToNat, Int.reduceLT, Int.reduceLE, Int.reduceAdd, Int.reduceSub, Int.reduceMul, Int.reduceEq, Int.reduceNeg, reduceCtorEq, resV, resAll, ARes.ev, LV.flat, ite_true, ite_false, exists_eq_left', exists_eq_left, keyOf, implies_true, fillC, capOf]
      refine callK_of (g_nearSet hS (c := cellAt y z k) (cellAt_in hS (by omega) (by omega)).1) ?_
      simp (disch := omega) only [f1, f2, f3, f7, f11, f12, ↓SXd, SXu, slBounds, ↓sop, ↓aop, ↓reduceIte, LV.cells, AOp.dst, LV.I, LV.B, LV.U, LV.S, LV.nil, Nat.reduceEqDiff, Nat.reduceAdd, Nat.reduceMul, Nat.reduceSub, Nat.reduceLeDiff, Nat.reduceBEq, Nat.reduceDiv, Nat.reduceMod, Int.reduceToNat, Int.reduceLT, Int.reduceLE, Int.reduceAdd, Int.reduceSub, Int.reduceMul, Int.reduceEq, Int.reduceNeg, reduceCtorEq, resV, resAll, ARes.ev, LV.flat, ite_true, ite_false, exists_eq_left', exists_eq_left, keyOf, implies_true, fillC, capOf]
      rw [bs_and hS, bs_or hS]
      exact ⟨m2 - 1, by omega, k + 1, by omega, rfl, f1, f2, f3, by rw [show bs x y z (growK y z r q (k + 1)) = _ from (bs_eq hS).2 fun c _ => growK_succ c]; simp only [hp, if_true]; rfl, f11, eqI (natI _)⟩
    · have hp' : r (cellAt y z k) = false := by simpa using hp
      simp (disch := omega) only [f1, f2, f3, f7, f11, f12, hp', ↓SXd, SXu, slBounds, ↓sop, ↓aop, ↓reduceIte, LV.cells, AOp.dst, LV.I, LV.B, LV.U, LV.S, LV.nil, Nat.reduceEqDiff, Nat.reduceAdd, Nat.reduceMul, Nat.reduceSub, Nat.reduceLeDiff, Nat.reduceBEq, Nat.reduceDiv, Nat.reduceMod, Int.reduceToNat, Int.reduceLT, Int.reduceLE, Int.reduceAdd, Int.reduceSub, Int.reduceMul, Int.reduceEq, Int.reduceNeg, reduceCtorEq, resV, resAll, ARes.ev, LV.flat, ite_true, ite_false, exists_eq_left', exists_eq_left, keyOf, implies_true, fillC, capOf]
      exact ⟨m2 - 1, by omega, k + 1, by omega, rfl, f1, f2, f3, by rw [show bs x y z (growK y z r q (k + 1)) = bs x y z (growK y z r q k) from (bs_eq hS).2 fun c _ => by rw [growK_succ c, hp', if_neg (by simp)]]; exact f7, f11, eqI (natI _)⟩
  · simp (disch := omega) only [f1, f2, f3, f7, f11, f12, ↓SXd, SXu, slBounds, ↓sop, ↓aop, ↓reduceIte, LV.cells, AOp.dst, LV.I, LV.B, LV.U, LV.S, LV.nil, Nat.reduceEqDiff, Nat.reduceAdd, Nat.reduceMul, Nat.reduceSub, Nat.reduceLeDiff, Nat.reduceBEq, Nat.reduceDiv, Nat.reduceMod, Int.reduceToNat, Int.reduceLT, Int.reduceLE, Int.reduceAdd, Int.reduceSub, Int.reduceMul, Int.reduceEq, Int.reduceNeg, reduceCtorEq, resV, resAll, ARes.ev, LV.flat, ite_true, ite_false, exists_eq_left', exists_eq_left, keyOf, implies_true, fillC, capOf]
    have : k = vol x y z := by omega
    subst this
    refine condC_dec (fun he => ?_) (fun he => ?_)
    · simp (disch := omega) only [f1, f2, f3, f7, f11, f12, ↓SXd, SXu, slBounds, ↓sop, ↓aop, ↓reduceIte, LV.cells, AOp.dst, LV.I, LV.B, LV.U, LV.S, LV.nil, Nat.reduceEqDiff, Nat.reduceAdd, Nat.reduceMul, Nat.reduceSub, Nat.reduceLeDiff, Nat.reduceBEq, Nat.reduceDiv, Nat.reduceMod, Int.reduceToNat, Int.reduceLT, Int.reduceLE, Int.reduceAdd, Int.reduceSub, Int.reduceMul, Int.reduceEq, Int.reduceNeg, reduceCtorEq, resV, resAll, ARes.ev, LV.flat, ite_true, ite_false, exists_eq_left', exists_eq_left, keyOf, implies_true, fillC, capOf]
      rw [show bs x y z (reach x y z p q) = bs x y z r from (bs_eq hS).2 fun c hc => (reach_of_fix hS hr0 hr1 ((bs_eq hS).1 he) c hc).symm]
      exact cmp_pre hpre rfl
    · simp (disch := omega) only [f1, f2, f3, f7, f11, f12, ↓SXd, SXu, slBounds, ↓sop, ↓aop, ↓reduceIte, LV.cells, AOp.dst, LV.I, LV.B, LV.U, LV.S, LV.nil, Nat.reduceEqDiff, Nat.reduceAdd, Nat.reduceMul, Nat.reduceSub, Nat.reduceLeDiff, Nat.reduceBEq, Nat.reduceDiv, Nat.reduceMod, Int.reduceToNat, Int.reduceLT, Int.reduceLE, Int.reduceAdd, Int.reduceSub, Int.reduceMul, Int.reduceEq, Int.reduceNeg, reduceCtorEq, resV, resAll, ARes.ev, LV.flat, ite_true, ite_false, exists_eq_left', exists_eq_left, keyOf, implies_true, fillC, capOf]
      refine ⟨rest x y z (growK y z r q (vol x y z)), ?_, growK y z r q (vol x y z), rfl, fun c hc h => (grow_iff hS).2 (.inl (hr0 c hc h)), fun c hc h => ?_, hpre, hbox, rfl, f2, f3⟩
      · rw [← hm]
        refine rest_lt hS (fun c hc h => (grow_iff hS).2 (.inl h)) ?_
        apply Classical.byContradiction
        intro hno
        apply he
        refine (bs_eq hS).2 fun c hc => ?_
        cases h1 : r c with
        | true => exact (grow_iff hS).2 (.inl h1)
        | false =>
          cases h2 : growK y z r q (vol x y z) c with
          | false => rfl
          | true => exact absurd ⟨c, hc, h1, h2⟩ hno
      · rcases (grow_iff hS).1 h with h | ⟨h1, d, h2, h3, h4⟩
        · exact hr1 c hc h
        · exact .step (hr1 d h2 h3) h4 hc h1
end
end Go.Ab

/- Contracts: what stands, both sides. -/
namespace Go.Ab
open Go
set_option linter.unusedSimpArgs false
set_option linter.unusedVariables false

/-- All of a set stands. -/
def Firm (x y z : Int) (p : Cell → Bool) : Prop := ∀ c, c.inBox x y z → p c = true → stand x y z p c = true
noncomputable instance (x y z : Int) (p : Cell → Bool) : Decidable (Firm x y z p) := Classical.propDecidable _
theorem stand_sub {x y z : Int} {p : Cell → Bool} {c : Cell} (h : stand x y z p c = true) : p c = true := by
  unfold stand at h
  rw [reach_iff] at h
  cases h with
  | base _ h2 => simp only [Bool.and_eq_true] at h2; exact h2.1
  | step _ _ _ h4 => exact h4
theorem stand_congr {x y z : Int} {p q : Cell → Bool} (h : ∀ c, c.inBox x y z → p c = q c) (c : Cell) : stand x y z p c = stand x y z q c := by
  rw [Bool.eq_iff_iff]
  unfold stand
  rw [reach_iff, reach_iff]
  constructor
  · exact fun hr => hr.mono (fun e he h1 => .base he (by simp only [Bool.and_eq_true] at h1 ⊢; rw [← h e he]; exact h1)) fun e he h1 => by rw [← h e he]; exact h1
  · exact fun hr => hr.mono (fun e he h1 => .base he (by simp only [Bool.and_eq_true] at h1 ⊢; rw [h e he]; exact h1)) fun e he h1 => by rw [h e he]; exact h1
section
variable {x y z : Int} (hS : Sides x y z)
include hS
theorem firm_bs {p : Cell → Bool} : bs x y z (stand x y z p) = bs x y z p ↔ Firm x y z p := by
  rw [bs_eq hS]
  constructor
  · intro h c hc hp; rw [h c hc]; exact hp
  · intro h c hc
    rw [Bool.eq_iff_iff]
    exact ⟨stand_sub, h c hc⟩
theorem firm_hang {p : Cell → Bool} : (pick x y z (parted x y z p true)).length = 0 ↔ Firm x y z p := by
  rw [List.length_eq_zero_iff]
  unfold pick
  rw [List.filter_eq_nil_iff]
  constructor
  · intro h c hc hp
    have := h c ((mem_cellsOf hS).2 hc)
    unfold parted at this
    rw [hp, Bool.true_and] at this
    simpa using this
  · intro h c hc
    unfold parted
    cases hp : p c with
    | false => simp
    | true => rw [h c ((mem_cellsOf hS).1 hc) hp]; simp

theorem g_floor_1 {a b c : Int} {M : Mem} : CallsTo PG F.impl_box_floor_1 [.agg [.I a, .I b, .I c]] M (.B (decide (c = 0))) M := by
  refine calls_run K.impl_box_floor_1 rfl ?_
  simp (disch := omega) only [C.impl_box_floor_1, ↓SXd, SXu, slBounds, ↓sop, ↓aop, ↓reduceIte, LV.cells, AOp.dst, LV.I, LV.B, LV.U, LV.S, LV.nil, Nat.reduceEqDiff, Nat.reduceAdd, Nat.reduceMul, Nat.reduceSub, Nat.reduceLeDiff, Nat.reduceBEq, Nat.reduceDiv, Nat.reduceMod, Int.reduceToNat, Int.reduceLT, Int.reduceLE, Int.reduceAdd, Int.reduceSub, Int.reduceMul, Int.reduceEq, Int.reduceNeg, reduceCtorEq, resV, resAll, ARes.ev, LV.flat, ite_true, ite_false, exists_eq_left', exists_eq_left, keyOf, implies_true, fillC, capOf]
  exact cmp_drop rfl
theorem g_floor {M : Mem} : CallsTo PG F.impl_box_floor [.agg [.I x, .I y, .I z]] M (.W (bs x y z fun c => decide (c.c = 0))) M := by
  refine calls_run K.impl_box_floor rfl ?_
  simp (disch := omega) only [C.impl_box_floor, ↓SXd, SXu, slBounds, ↓sop, ↓aop, ↓reduceIte, LV.cells, AOp.dst, LV.I, LV.B, LV.U, LV.S, LV.nil, Nat.reduceEqDiff, Nat.reduceAdd, Nat.reduceMul, Nat.reduceSub, Nat.reduceLeDiff, Nat.reduceBEq, Nat.reduceDiv, Nat.reduceMod, Int.reduceToNat, Int.reduceLT, Int.reduceLE, Int.reduceAdd, Int.reduceSub, Int.reduceMul, Int.reduceEq, Int.reduceNeg, reduceCtorEq, resV, resAll, ARes.ev, LV.flat, ite_true, ite_false, exists_eq_left', exists_eq_left, keyOf, implies_true, fillC, capOf]
  refine callK_of (g_those hS (p := fun c => decide (c.c = 0)) (f := F.impl_box_floor_1) (caps := []) fun M' _ i _ => g_floor_1 hS) ?_
  simp (disch := omega) only [↓SXd, SXu, slBounds, ↓sop, ↓aop, ↓reduceIte, LV.cells, AOp.dst, LV.I, LV.B, LV.U, LV.S, LV.nil, Nat.reduceEqDiff, Nat.reduceAdd, Nat.reduceMul, Nat.reduceSub, Nat.reduceLeDiff, Nat.reduceBEq, Nat.reduceDiv, Nat.reduceMod, Int.reduceToNat, Int.reduceLT, Int.reduceLE, Int.reduceAdd, Int.reduceSub, Int.reduceMul, Int.reduceEq, Int.reduceNeg, reduceCtorEq, resV, resAll, ARes.ev, LV.flat, ite_true, ite_false, exists_eq_left', exists_eq_left, keyOf, implies_true, fillC, capOf]
  exact cmp_drop rfl
theorem g_standing {p : Cell → Bool} {M : Mem} : CallsTo PG F.impl_box_standing [.agg [.I x, .I y, .I z], .W (bs x y z p)] M (.W (bs x y z (stand x y z p))) M := by
  refine calls_run K.impl_box_standing rfl ?_
  simp (disch := omega) only [C.impl_box_standing, ↓SXd, SXu, slBounds, ↓sop, ↓aop, ↓reduceIte, LV.cells, AOp.dst, LV.I, LV.B, LV.U, LV.S, LV.nil, Nat.reduceEqDiff, Nat.reduceAdd, Nat.reduceMul, Nat.reduceSub, Nat.reduceLeDiff, Nat.reduceBEq, Nat.reduceDiv, Nat.reduceMod, Int.reduceToNat, Int.reduceLT, Int.reduceLE, Int.reduceAdd, Int.reduceSub, Int.reduceMul, Int.reduceEq, Int.reduceNeg, reduceCtorEq, resV, resAll, ARes.ev, LV.flat, ite_true, ite_false, exists_eq_left', exists_eq_left, keyOf, implies_true, fillC, capOf]
  refine callK_of (g_floor hS) ?_
  simp (disch := omega) only [↓SXd, SXu, slBounds, ↓sop, ↓aop, ↓reduceIte, LV.cells, AOp.dst, LV.I, LV.B, LV.U, LV.S, LV.nil, Nat.reduceEqDiff, Nat.reduceAdd, Nat.reduceMul, Nat.reduceSub, Nat.reduceLeDiff, Nat.reduceBEq, Nat.reduceDiv, Nat.reduceMod, Int.reduceToNat, Int.reduceLT, Int.reduceLE, Int.reduceAdd, Int.reduceSub, Int.reduceMul, Int.reduceEq, Int.reduceNeg, reduceCtorEq, resV, resAll, ARes.ev, LV.flat, ite_true, ite_false, exists_eq_left', exists_eq_left, keyOf, implies_true, fillC, capOf]
  rw [bs_and hS]
  refine callK_of (g_grown hS) ?_
  simp (disch := omega) only [↓SXd, SXu, slBounds, ↓sop, ↓aop, ↓reduceIte, LV.cells, AOp.dst, LV.I, LV.B, LV.U, LV.S, LV.nil, Nat.reduceEqDiff, Nat.reduceAdd, Nat.reduceMul, Nat.reduceSub, Nat.reduceLeDiff, Nat.reduceBEq, Nat.reduceDiv, Nat.reduceMod, Int.reduceToNat, Int.reduceLT, Int.reduceLE, Int.reduceAdd, Int.reduceSub, Int.reduceMul, Int.reduceEq, Int.reduceNeg, reduceCtorEq, resV, resAll, ARes.ev, LV.flat, ite_true, ite_false, exists_eq_left', exists_eq_left, keyOf, implies_true, fillC, capOf]
  exact cmp_drop rfl
/-- A cube can be taken. -/
noncomputable def canTake (x y z : Int) (p : Cell → Bool) (c : Cell) : Bool := p c && decide (Firm x y z fun d => p d && !decide (d = c))

end

end Go.Ab

/- Plain words: the first cell of a set; laying and taking orders. -/
namespace Go.Ab

def first (x y z : Int) (p : Cell → Bool) : Cell := (pick x y z p).headD default
theorem nodup_sub {l m : List Cell} (hn : l.Nodup) (hm : ∀ c ∈ l, c ∈ m) : l.length ≤ m.length := by
  induction l generalizing m with
  | nil => simp
  | cons c l ih =>
    rw [List.nodup_cons] at hn
    have hc := hm c (by simp)
    have := ih (m := m.erase c) hn.2 fun d hd => (List.mem_erase_of_ne (fun e => hn.1 (by rw [← e]; exact hd))).2 (hm d (by simp [hd]))
    rw [List.length_erase_of_mem hc] at this
    have h0 : 0 < m.length := List.length_pos_of_mem hc
    simp only [List.length_cons]
    omega
section
variable {x y z : Int} (hS : Sides x y z)
include hS
/-- A cube that may be laid. -/
def layC (q : Cell → Bool) (laid : List Cell) : Cell → Bool := fun c => q c && (!decide (c ∈ laid) && (decide (c.c = 0) || laid.any fun d => decide (apart d c = 1)))
def layL (x y z : Int) (q : Cell → Bool) : Nat → List Cell
  | 0 => []
  | k + 1 => layL x y z q k ++ [first x y z (layC q (layL x y z q k))]

/-- The taking order. -/
noncomputable def takeL (x y z : Int) (q : Cell → Bool) : Nat → List Cell
  | 0 => []
  | k + 1 => takeL x y z q k ++ [first x y z (canTake x y z fun d => q d && !decide (d ∈ takeL x y z q k))]
end
end Go.Ab

/- Plain words: sinking. -/
namespace Go.Ab

def up (c : Cell) : Cell := ⟨c.a, c.b, c.c + 1⟩
def down (c : Cell) : Cell := ⟨c.a, c.b, c.c - 1⟩
theorem up_down (c : Cell) : up (down c) = c := by unfold up down; rw [cell_eq]; simp
theorem down_up (c : Cell) : down (up c) = c := by unfold up down; rw [cell_eq]; simp
noncomputable def hang (x y z : Int) (p : Cell → Bool) : Cell → Bool := fun c => p c && !stand x y z p c
noncomputable def sinkNext (x y z : Int) (p : Cell → Bool) : Cell → Bool := fun d => stand x y z p d || (decide ((up d).inBox x y z) && hang x y z p (up d))
/-- The first k cubes that hang have sunk. -/
noncomputable def sinkK (x y z : Int) (p : Cell → Bool) (k : Nat) : Cell → Bool := fun d => stand x y z p d || ((pick x y z (hang x y z p)).take k).any fun e => decide (d = down e)
noncomputable def sink (x y z : Int) : Nat → (Cell → Bool) → (Cell → Bool) × Nat
  | 0, p => (p, 0)
  | f + 1, p => if Firm x y z p then (p, 0) else ((sink x y z f (sinkNext x y z p)).1, (sink x y z f (sinkNext x y z p)).2 + 1)

def sumC (l : List Cell) : Nat := (l.map fun c => c.c.toNat).sum
theorem sumC_cons (a : Cell) (l : List Cell) : sumC (a :: l) = a.c.toNat + sumC l := by simp [sumC]
theorem sumC_or (p q : Cell → Bool) : ∀ l : List Cell, sumC (l.filter fun c => p c || q c) ≤ sumC (l.filter p) + sumC (l.filter q)
  | [] => by simp [sumC]
  | a :: l => by
    have ih := sumC_or p q l
    cases hp : p a <;> cases hq : q a <;> simp only [List.filter_cons, hp, hq, Bool.or_self, Bool.or_true, Bool.or_false, Bool.false_eq_true, if_false, if_true, sumC_cons] <;> omega
theorem sumC_part (p q : Cell → Bool) (hqp : ∀ c, q c = true → p c = true) : ∀ l : List Cell, sumC (l.filter q) + sumC (l.filter fun c => p c && !q c) = sumC (l.filter p)
  | [] => by simp [sumC]
  | a :: l => by
    have ih := sumC_part p q hqp l
    have := hqp a
    cases hp : p a <;> cases hq : q a <;> simp only [hp, hq, Bool.false_eq_true, imp_false, not_true_eq_false, not_false_eq_true, forall_const, reduceCtorEq] at this <;>
      simp only [List.filter_cons, hp, hq, Bool.and_self, Bool.not_true, Bool.not_false, Bool.and_false, Bool.and_true, Bool.false_eq_true, if_false, if_true, sumC_cons] <;> omega
theorem sumC_erase {m : List Cell} {c : Cell} (h : c ∈ m) : sumC (m.erase c) + c.c.toNat = sumC m := by
  induction m with
  | nil => simp at h
  | cons a m ih =>
    rw [List.erase_cons]
    by_cases e : a = c
    · subst e; simp [sumC_cons]; omega
    · have hb : (a == c) = false := by simpa using e
      rw [hb]
      simp only [Bool.false_eq_true, if_false, sumC_cons]
      have := ih (by rcases List.mem_cons.1 h with h | h
                     · exact absurd h.symm e
                     · exact h)
      omega
/-- Cubes that go down, no two to the same place, and out of a list: the sum is less by their number. -/
theorem sumC_down {l : List Cell} (hl : l.Nodup) : ∀ {m : List Cell}, (∀ c ∈ l, up c ∈ m) → (∀ c ∈ l, 0 ≤ c.c) → (∀ c ∈ m, 1 ≤ c.c) → sumC l + m.length ≤ sumC m := by
  induction l with
  | nil =>
    intro m _ _ hm
    simp only [sumC, List.map_nil, List.sum_nil, Nat.zero_add]
    induction m with
    | nil => simp
    | cons a m ih =>
      have := ih (by simp) fun c hc => hm c (by simp [hc])
      have ha := hm a (by simp)
      simp only [List.length_cons, List.map_cons, List.sum_cons]; omega
  | cons a l ih =>
    intro m hm h0 h1
    rw [List.nodup_cons] at hl
    have hu := hm a (by simp)
    have := ih hl.2 (m := m.erase (up a)) (fun c hc => (List.mem_erase_of_ne (fun e => hl.1 (by
      have h2 := congrArg down e
      rw [down_up, down_up] at h2
      rw [← h2]; exact hc))).2 (hm c (by simp [hc]))) (fun c hc => h0 c (by simp [hc])) fun c hc => h1 c (List.mem_of_mem_erase hc)
    rw [List.length_erase_of_mem hu] at this
    have h3 := sumC_erase hu
    have h4 := h0 a (by simp)
    have h5 : 0 < m.length := List.length_pos_of_mem hu
    rw [sumC_cons]
    have h6 : (up a).c.toNat = a.c.toNat + 1 := by unfold up; simp only; omega
    omega

section
variable {x y z : Int} (hS : Sides x y z)
include hS
theorem hang_up {p : Cell → Bool} {c : Cell} (hc : c.inBox x y z) (h : hang x y z p c = true) : 1 ≤ c.c ∧ (down c).inBox x y z := by
  unfold hang at h
  simp only [Bool.and_eq_true, Bool.not_eq_true'] at h
  have : c.c ≠ 0 := fun e => by
    have : stand x y z p c = true := by unfold stand; rw [reach_iff]; exact .base hc (by simp [h.1, e])
    rw [this] at h; cases h.2
  have h3 := hc.2.2
  refine ⟨by omega, hc.1, hc.2.1, ?_⟩
  unfold down; simp only; omega
theorem sink_less {p : Cell → Bool} (hf : ¬ Firm x y z p) : sumC (pick x y z (sinkNext x y z p)) < sumC (pick x y z p) := by
  have h1 := sumC_or (stand x y z p) (fun d => decide ((up d).inBox x y z) && hang x y z p (up d)) (cellsOf x y z)
  have h2 := sumC_part p (stand x y z p) (fun c hc => stand_sub hc) (cellsOf x y z)
  have h3 := sumC_down (l := pick x y z fun d => decide ((up d).inBox x y z) && hang x y z p (up d)) (pick_ok hS _).nodup (m := pick x y z (hang x y z p)) (fun c hc => by
    have := ((mem_pick hS).1 hc).2
    simp only [Bool.and_eq_true, decide_eq_true_eq] at this
    exact (mem_pick hS).2 this) (fun c hc => ((mem_pick hS).1 hc).1.2.2.1) fun c hc => (hang_up hS ((mem_pick hS).1 hc).1 ((mem_pick hS).1 hc).2).1
  have h4 : 0 < (pick x y z (hang x y z p)).length := by
    apply Nat.pos_of_ne_zero
    intro e
    apply hf
    intro c hc hp
    cases hs : stand x y z p c with
    | true => rfl
    | false =>
      have := (mem_pick hS (p := hang x y z p) (c := c)).2 ⟨hc, by simp [hang, hp, hs]⟩
      rw [List.eq_nil_of_length_eq_zero e] at this
      simp at this
  rw [show (fun c => p c && !stand x y z p c) = hang x y z p from rfl] at h2
  unfold pick at *
  unfold sinkNext
  omega
theorem sinkK_all {p : Cell → Bool} {d : Cell} (hd : d.inBox x y z) : sinkK x y z p (pick x y z (hang x y z p)).length d = sinkNext x y z p d := by
  unfold sinkK sinkNext
  congr 1
  rw [List.take_length, Bool.eq_iff_iff, List.any_eq_true, Bool.and_eq_true, decide_eq_true_iff]
  constructor
  · rintro ⟨e, he, h⟩
    obtain ⟨h1, h2⟩ := (mem_pick hS).1 he
    rw [of_decide_eq_true h, up_down]
    exact ⟨h1, h2⟩
  · rintro ⟨h1, h2⟩
    exact ⟨up d, (mem_pick hS).2 ⟨h1, h2⟩, by rw [down_up]; simp⟩
theorem sinkK_step {p : Cell → Bool} {k : Nat} (hk : k < (pick x y z (hang x y z p)).length) (d : Cell) : sinkK x y z p (k + 1) d = (sinkK x y z p k d || decide (d = down ((pick x y z (hang x y z p)).getD k default))) := by
  unfold sinkK
  rw [List.take_succ, List.getElem?_eq_getElem hk, List.any_append]
  simp [hk, Bool.or_assoc]
theorem sumC_le (p : Cell → Bool) : sumC (pick x y z p) < 1000 := by
  have h1 := pick_len hS p
  have h2 : ∀ c ∈ pick x y z p, c.c.toNat ≤ 3 := fun c hc => by
    have := ((mem_pick hS).1 hc).1.2.2
    have := hS.2.2
    omega
  have h3 : ∀ l : List Cell, (∀ c ∈ l, c.c.toNat ≤ 3) → sumC l ≤ 3 * l.length := by
    intro l
    induction l with
    | nil => intro _; simp [sumC]
    | cons a l ih => intro h; have := ih fun c hc => h c (by simp [hc]); have := h a (by simp); rw [sumC_cons, List.length_cons]; omega
  have := h3 _ h2
  omega
end
end Go.Ab

/- Contracts: sinking, both sides. -/
namespace Go.Ab
open Go
set_option linter.unusedSimpArgs false
set_option linter.unusedVariables false

/-- What SinkHeap answers. -/
noncomputable def sinkOf (x y z : Int) (cs : List Cell) : Option Hp := by
  classical
  exact if HeapOK x y z cs then some ⟨x, y, z, pick x y z (sink x y z 1000 fun c => decide (c ∈ cs)).1⟩ else none
noncomputable def sinkTimes (x y z : Int) (cs : List Cell) : Int := by
  classical
  exact if HeapOK x y z cs then ((sink x y z 1000 fun c => decide (c ∈ cs)).2 : Nat) else 0
theorem g_SinkHeap {x y z : Int} {t : Nat} {w : Bool} {cs : List Cell} {M : Mem} (h0 : Live M t (.row (triL cs) w 3)) (hn : cs.length ≤ 1000000000) :
    CallsR PG F.impl_SinkHeap [.agg [.I x, .I y, .I z, .ref t 0 cs.length]] M (HeapRes M (sinkOf x y z cs) [.I (sinkTimes x y z cs)]) := by
  have h : Tri M t 0 cs := h0.has
  refine callsR_run K.impl_SinkHeap rfl ?_
  simp (disch := omega) only [C.impl_SinkHeap, ↓SXd, SXu, slBounds, ↓sop, ↓aop, ↓reduceIte, LV.cells, AOp.dst, LV.I, LV.B, LV.U, LV.S, LV.nil, Nat.reduceEqDiff, Nat.reduceAdd, Nat.reduceMul, Nat.reduceSub, Nat.reduceLeDiff, Nat.reduceBEq, Nat.reduceDiv, Nat.reduceMod, Int.reduceToNat, Int.reduceLT, Int.reduceLE, Int.reduceAdd, Int.reduceSub, Int.reduceMul, Int.reduceEq, Int.reduceNeg, reduceCtorEq, resV, resAll, ARes.ev, LV.flat, ite_true, ite_false, exists_eq_left', exists_eq_left, keyOf, implies_true, fillC, capOf]
  refine callK_of (g_IsHeap h.app hn) ?_
  simp (disch := omega) only [↓SXd, SXu, slBounds, ↓sop, ↓aop, ↓reduceIte, LV.cells, AOp.dst, LV.I, LV.B, LV.U, LV.S, LV.nil, Nat.reduceEqDiff, Nat.reduceAdd, Nat.reduceMul, Nat.reduceSub, Nat.reduceLeDiff, Nat.reduceBEq, Nat.reduceDiv, Nat.reduceMod, Int.reduceToNat, Int.reduceLT, Int.reduceLE, Int.reduceAdd, Int.reduceSub, Int.reduceMul, Int.reduceEq, Int.reduceNeg, reduceCtorEq, resV, resAll, ARes.ev, LV.flat, ite_true, ite_false, exists_eq_left', exists_eq_left, keyOf, implies_true, fillC, capOf]
  unfold sinkOf sinkTimes
  by_cases hH : HeapOK x y z cs
  · have hS := hH.1
    have hin := fun c hc => hH.mem (c := c) hc
    rw [if_pos hH, if_pos hH]
    simp (disch := omega) only [hH, ↓SXd, SXu, slBounds, ↓sop, ↓aop, ↓reduceIte, LV.cells, AOp.dst, LV.I, LV.B, LV.U, LV.S, LV.nil, Nat.reduceEqDiff, Nat.reduceAdd, Nat.reduceMul, Nat.reduceSub, Nat.reduceLeDiff, Nat.reduceBEq, Nat.reduceDiv, Nat.reduceMod, Int.reduceToNat, Int.reduceLT, Int.reduceLE, Int.reduceAdd, Int.reduceSub, Int.reduceMul, Int.reduceEq, Int.reduceNeg, reduceCtorEq, resV, resAll, ARes.ev, LV.flat, ite_true, ite_false, exists_eq_left', exists_eq_left, keyOf, implies_true, fillC, capOf]
    refine callK_of (g_box) ?_
    simp (disch := omega) only [↓SXd, SXu, slBounds, ↓sop, ↓aop, ↓reduceIte, LV.cells, AOp.dst, LV.I, LV.B, LV.U, LV.S, LV.nil, Nat.reduceEqDiff, Nat.reduceAdd, Nat.reduceMul, Nat.reduceSub, Nat.reduceLeDiff, Nat.reduceBEq, Nat.reduceDiv, Nat.reduceMod, Int.reduceToNat, Int.reduceLT, Int.reduceLE, Int.reduceAdd, Int.reduceSub, Int.reduceMul, Int.reduceEq, Int.reduceNeg, reduceCtorEq, resV, resAll, ARes.ev, LV.flat, ite_true, ite_false, exists_eq_left', exists_eq_left, keyOf, implies_true, fillC, capOf]
    refine callK_of (g_cubes h.app hn hS hin) ?_
    simp (disch := omega) only [splice, ↓SXd, SXu, slBounds, ↓sop, ↓aop, ↓reduceIte, LV.cells, AOp.dst, LV.I, LV.B, LV.U, LV.S, LV.nil, Nat.reduceEqDiff, Nat.reduceAdd, Nat.reduceMul, Nat.reduceSub, Nat.reduceLeDiff, Nat.reduceBEq, Nat.reduceDiv, Nat.reduceMod, Int.reduceToNat, Int.reduceLT, Int.reduceLE, Int.reduceAdd, Int.reduceSub, Int.reduceMul, Int.reduceEq, Int.reduceNeg, reduceCtorEq, resV, resAll, ARes.ev, LV.flat, ite_true, ite_false, exists_eq_left', exists_eq_left, keyOf, implies_true, fillC, capOf]
    refine ev_loop (fun m fr M' => ∃ (p : Cell → Bool) (k : Nat), k + m = 1000 ∧ sumC (pick x y z p) < m ∧ (sink x y z 1000 fun c => decide (c ∈ cs)) = ((sink x y z m p).1, k + (sink x y z m p).2) ∧ Pre M M' ∧ Live M' (M.length + 1) (.row [.I 0, .I 0, .I 0, .nil] true 0) ∧ Live M' (M.length + 2) (.row [.I x, .I y, .I z] true 0) ∧
      fr 2 = .ptr (M.length + 1) 0 ∧ fr 5 = .ptr (M.length + 2) 0 ∧ fr 6 = .W (bs x y z p) ∧ fr 7 = .I k) 1000
      ⟨fun c => decide (c ∈ cs), 0, rfl, sumC_le hS _, by simp, Pre.app _ _, Live.newj rfl, Live.newj rfl, rfl, rfl, rfl, rfl⟩ ?_
    rintro m fr M' ⟨p, k, hk, hm, hsk, hpre, b2, b5, f2, f5, f6, f7⟩
    have hlM := b5.lt
    simp (disch := omega) only [f2, f5, f6, f7, b5.cells, ↓SXd, SXu, slBounds, ↓sop, ↓aop, ↓reduceIte, LV.cells, AOp.dst, LV.I, LV.B, LV.U, LV.S, LV.nil, Nat.reduceEqDiff, Nat.reduceAdd, Nat.reduceMul, Nat.reduceSub, Nat.reduceLeDiff, Nat.reduceBEq, Nat.reduceDiv, Nat.reduceMod, Int.reduceToNat, Int.reduceLT, Int.reduceLE, Int.reduceAdd, Int.reduceSub, Int.reduceMul, Int.reduceEq, Int.reduceNeg, reduceCtorEq, resV, resAll, ARes.ev, LV.flat, ite_true, ite_false, exists_eq_left', exists_eq_left, keyOf, implies_true, fillC, capOf]
    refine callK_of (g_standing hS) ?_
    simp (disch := omega) only [f2, f5, f6, f7, ↓SXd, SXu, slBounds, ↓sop, ↓aop, ↓reduceIte, LV.cells, AOp.dst, LV.I, LV.B, LV.U, LV.S, LV.nil, Nat.reduceEqDiff, Nat.reduceAdd, Nat.reduceMul, Nat.reduceSub, Nat.reduceLeDiff, Nat.reduceBEq, Nat.reduceDiv, Nat.reduceMod, Int.reduceToNat, Int.reduceLT, Int.reduceLE, Int.reduceAdd, Int.reduceSub, Int.reduceMul, Int.reduceEq, Int.reduceNeg, reduceCtorEq, resV, resAll, ARes.ev, LV.flat, ite_true, ite_false, exists_eq_left', exists_eq_left, keyOf, implies_true, fillC, capOf]
    have hfb := firm_bs hS (p := p)
    obtain ⟨m', rfl⟩ : ∃ m', m = m' + 1 := ⟨m - 1, by omega⟩
    by_cases hF : Firm x y z p
    · have hb := hfb.2 hF
      have hs0 : sink x y z (m' + 1) p = (p, 0) := by simp only [sink, if_pos hF]
      rw [hs0] at hsk
      simp only [Nat.add_zero] at hsk
      rw [hsk]
      simp (disch := omega) only [f2, f5, f6, f7, hb, b5.cells, ↓SXd, SXu, slBounds, ↓sop, ↓aop, ↓reduceIte, LV.cells, AOp.dst, LV.I, LV.B, LV.U, LV.S, LV.nil, Nat.reduceEqDiff, Nat.reduceAdd, Nat.reduceMul, Nat.reduceSub, Nat.reduceLeDiff, Nat.reduceBEq, Nat.reduceDiv, Nat.reduceMod, Int.reduceToNat, Int.reduceLT, Int.reduceLE, Int.reduceAdd, Int.reduceSub, Int.reduceMul, Int.reduceEq, Int.reduceNeg, reduceCtorEq, resV, resAll, ARes.ev, LV.flat, ite_true, ite_false, exists_eq_left', exists_eq_left, keyOf, implies_true, fillC, capOf]
      refine callH_of (g_heap hS) ?_
      intro tn N2 htn hp2 hnr
      simp (disch := omega) only [f2, f5, f6, f7, ↓SXd, SXu, slBounds, ↓sop, ↓aop, ↓reduceIte, LV.cells, AOp.dst, LV.I, LV.B, LV.U, LV.S, LV.nil, Nat.reduceEqDiff, Nat.reduceAdd, Nat.reduceMul, Nat.reduceSub, Nat.reduceLeDiff, Nat.reduceBEq, Nat.reduceDiv, Nat.reduceMod, Int.reduceToNat, Int.reduceLT, Int.reduceLE, Int.reduceAdd, Int.reduceSub, Int.reduceMul, Int.reduceEq, Int.reduceNeg, reduceCtorEq, resV, resAll, ARes.ev, LV.flat, ite_true, ite_false, exists_eq_left', exists_eq_left, keyOf, implies_true, fillC, capOf]
      refine memK_box (b2.pre hp2) (by simp) fun N3 k1 k2 k3 => ?_
      have hN2 := hp2.1
      simp (disch := omega) only [f2, f5, f6, f7, k2.cells, ↓SXd, SXu, slBounds, ↓sop, ↓aop, ↓reduceIte, LV.cells, AOp.dst, LV.I, LV.B, LV.U, LV.S, LV.nil, Nat.reduceEqDiff, Nat.reduceAdd, Nat.reduceMul, Nat.reduceSub, Nat.reduceLeDiff, Nat.reduceBEq, Nat.reduceDiv, Nat.reduceMod, Int.reduceToNat, Int.reduceLT, Int.reduceLE, Int.reduceAdd, Int.reduceSub, Int.reduceMul, Int.reduceEq, Int.reduceNeg, reduceCtorEq, resV, resAll, ARes.ev, LV.flat, ite_true, ite_false, exists_eq_left', exists_eq_left, keyOf, implies_true, fillC, capOf]
      exact ⟨_, rfl, SlC.of (live_step hnr (by omega) k3), Newer.of (by have := hpre.1; omega), pre_step (hpre.trans hp2) (by omega) (j := 0) k1 k3⟩
    · have hb := fun e => hF (hfb.1 e)
      have hs1 : sink x y z (m' + 1) p = ((sink x y z m' (sinkNext x y z p)).1, (sink x y z m' (sinkNext x y z p)).2 + 1) := by simp only [sink, if_neg hF]
      rw [hs1] at hsk
      have hlt := sink_less hS hF
      simp (disch := omega) only [f2, f5, f6, f7, hb, b5.cells, ↓SXd, SXu, slBounds, ↓sop, ↓aop, ↓reduceIte, LV.cells, AOp.dst, LV.I, LV.B, LV.U, LV.S, LV.nil, Nat.reduceEqDiff, Nat.reduceAdd, Nat.reduceMul, Nat.reduceSub, Nat.reduceLeDiff, Nat.reduceBEq, Nat.reduceDiv, Nat.reduceMod, Int.reduceToNat, Int.reduceLT, Int.reduceLE, Int.reduceAdd, Int.reduceSub, Int.reduceMul, Int.reduceEq, Int.reduceNeg, reduceCtorEq, resV, resAll, ARes.ev, LV.flat, ite_true, ite_false, exists_eq_left', exists_eq_left, keyOf, implies_true, fillC, capOf]
      rw [bs_diff hS, show (bs x y z fun c => p c && !stand x y z p c) = bs x y z (hang x y z p) from rfl]
      refine callN_of (g_list hS) ?_
      intro tn N2 htn hp2 hnr
      simp (disch := omega) only [f2, f5, f6, f7, ↓SXd, SXu, slBounds, ↓sop, ↓aop, ↓reduceIte, LV.cells, AOp.dst, LV.I, LV.B, LV.U, LV.S, LV.nil, Nat.reduceEqDiff, Nat.reduceAdd, Nat.reduceMul, Nat.reduceSub, Nat.reduceLeDiff, Nat.reduceBEq, Nat.reduceDiv, Nat.reduceMod, Int.reduceToNat, Int.reduceLT, Int.reduceLE, Int.reduceAdd, Int.reduceSub, Int.reduceMul, Int.reduceEq, Int.reduceNeg, reduceCtorEq, resV, resAll, ARes.ev, LV.flat, ite_true, ite_false, exists_eq_left', exists_eq_left, keyOf, implies_true, fillC, capOf]
      have hpl := pick_len hS (hang x y z p)
      refine ev_loop (fun m2 fr N => ∃ i : Nat, i + m2 = (pick x y z (hang x y z p)).length ∧ Pre M N ∧ Live N (M.length + 1) (.row [.I 0, .I 0, .I 0, .nil] true 0) ∧ Live N (M.length + 2) (.row [.I x, .I y, .I z] true 0) ∧ Live N tn (.row (triL (pick x y z (hang x y z p))) true 3) ∧
        fr 2 = .ptr (M.length + 1) 0 ∧ fr 5 = .ptr (M.length + 2) 0 ∧ fr 9 = .W (bs x y z (sinkK x y z p i)) ∧ fr 7 = .I k ∧ fr 37 = .ref tn 0 (pick x y z (hang x y z p)).length ∧ fr 38 = .I (pick x y z (hang x y z p)).length ∧ fr 39 = .I i) (pick x y z (hang x y z p)).length
        ⟨0, by omega, hpre.trans hp2, b2.pre hp2, b5.pre hp2, hnr, f2, f5, by rw [show bs x y z (sinkK x y z p 0) = bs x y z (stand x y z p) from (bs_eq hS).2 fun d _ => by simp [sinkK]]; rfl, f7, rfl, rfl, rfl⟩ ?_
      clear f2 f5 f6 f7 hpre b2 b5 hnr
      rintro m2 fr N ⟨i, hi, hpre, b2, b5, hnr, f2, f5, f9, f7, f37, f38, f39⟩
      simp (disch := omega) only [f2, f5, f9, f7, f37, f38, f39, ↓SXd, SXu, slBounds, ↓sop, ↓aop, ↓reduceIte, LV.cells, AOp.dst, LV.I, LV.B, LV.U, LV.S, LV.nil, Nat.reduceEqDiff, Nat.reduceAdd, Nat.reduceMul, Nat.reduceSub, Nat.reduceLeDiff, Nat.reduceBEq, Nat.reduceDiv, Nat.reduceMod, Int.reduceToNat, Int.reduceLT, Int.reduceLE, Int.reduceAdd, Int.reduceSub, Int.reduceMul, Int.reduceEq, Int.reduceNeg, reduceCtorEq, resV, resAll, ARes.ev, LV.flat, ite_true, ite_false, exists_eq_left', exists_eq_left, keyOf, implies_true, fillC, capOf]
      refine condC_dec (fun hlt => ?_) (fun hlt => ?_)
      · have hil : i < (pick x y z (hang x y z p)).length := by omega
        have hg := hnr.tri0 hil
        obtain ⟨q1, q2⟩ := (mem_pick hS).1 (getD_mem' (d := default) hil)
        obtain ⟨u1, u2⟩ := hang_up hS q1 q2
        have hix := (idx_in hS u2).1
        have hz := q1.2.2
        have hz4 := hS.2.2
        have hst := sinkK_step hS hil
        generalize (pick x y z (hang x y z p)).getD i default = c at hg q1 q2 u1 u2 hix hz hst
        simp (disch := omega) only [f2, f5, f9, f7, f37, f38, f39, hg, Cell.row, splice, b5.app.cells, List.getElem?_append_left, ↓SXd, SXu, slBounds, ↓sop, ↓aop, ↓reduceIte, LV.cells, AOp.dst, LV.I, LV.B, LV.U, LV.S, LV.nil, Nat.reduceEqDiff, Nat.reduceAdd, Nat.reduceMul, Nat.reduceSub, Nat.reduceLeDiff, Nat.reduceBEq, Nat.reduceDiv, Nat.reduceMod, Int.reduceToNat, Int.reduceLT, Int.reduceLE, Int.reduceAdd, Int.reduceSub, Int.reduceMul, Int.reduceEq, Int.reduceNeg, reduceCtorEq, resV, resAll, ARes.ev, LV.flat, ite_true, ite_false, exists_eq_left', exists_eq_left, keyOf, implies_true, fillC, capOf]
        refine callK_of (g_index hS (c := down c) u2) ?_
        simp (disch := omega) only [f2, f5, f9, f7, f37, f38, f39, ↓SXd, SXu, slBounds, ↓sop, ↓aop, ↓reduceIte, LV.cells, AOp.dst, LV.I, LV.B, LV.U, LV.S, LV.nil, Nat.reduceEqDiff, Nat.reduceAdd, Nat.reduceMul, Nat.reduceSub, Nat.reduceLeDiff, Nat.reduceBEq, Nat.reduceDiv, Nat.reduceMod, Int.reduceToNat, Int.reduceLT, Int.reduceLE, Int.reduceAdd, Int.reduceSub, Int.reduceMul, Int.reduceEq, Int.reduceNeg, reduceCtorEq, resV, resAll, ARes.ev, LV.flat, ite_true, ite_false, exists_eq_left', exists_eq_left, keyOf, implies_true, fillC, capOf]
        rw [bs_one hS u2, bs_or hS, show (bs x y z fun d => sinkK x y z p i d || decide (d = down c)) = bs x y z (sinkK x y z p (i + 1)) from (bs_eq hS).2 fun d _ => (hst d).symm]
        exact ⟨m2 - 1, by omega, i + 1, by omega, hpre.app', b2.app, b5.app, hnr.app, f2, f5, rfl, f7, f37, f38, eqI (natI _)⟩
      · simp (disch := omega) only [f2, f5, f9, f7, f37, f38, f39, ↓SXd, SXu, slBounds, ↓sop, ↓aop, ↓reduceIte, LV.cells, AOp.dst, LV.I, LV.B, LV.U, LV.S, LV.nil, Nat.reduceEqDiff, Nat.reduceAdd, Nat.reduceMul, Nat.reduceSub, Nat.reduceLeDiff, Nat.reduceBEq, Nat.reduceDiv, Nat.reduceMod, Int.reduceToNat, Int.reduceLT, Int.reduceLE, Int.reduceAdd, Int.reduceSub, Int.reduceMul, Int.reduceEq, Int.reduceNeg, reduceCtorEq, resV, resAll, ARes.ev, LV.flat, ite_true, ite_false, exists_eq_left', exists_eq_left, keyOf, implies_true, fillC, capOf]
        have : i = (pick x y z (hang x y z p)).length := by omega
        subst this
        exact ⟨m', by omega, sinkNext x y z p, k + 1, by omega, by omega, by rw [hsk]; simp only [Prod.mk.injEq, true_and]; omega, hpre, b2, b5, f2, f5, by rw [show bs x y z (sinkNext x y z p) = _ from (bs_eq hS).2 fun d hd => (sinkK_all hS hd).symm]; rfl, eqI (natI _)⟩
  · rw [if_neg hH, if_neg hH]
    simp (disch := omega) only [hH, fillC, splice, ↓SXd, SXu, slBounds, ↓sop, ↓aop, ↓reduceIte, LV.cells, AOp.dst, LV.I, LV.B, LV.U, LV.S, LV.nil, Nat.reduceEqDiff, Nat.reduceAdd, Nat.reduceMul, Nat.reduceSub, Nat.reduceLeDiff, Nat.reduceBEq, Nat.reduceDiv, Nat.reduceMod, Int.reduceToNat, Int.reduceLT, Int.reduceLE, Int.reduceAdd, Int.reduceSub, Int.reduceMul, Int.reduceEq, Int.reduceNeg, reduceCtorEq, resV, resAll, ARes.ev, LV.flat, ite_true, ite_false, exists_eq_left', exists_eq_left, keyOf, implies_true, fillC, capOf]
    exact ⟨_, rfl, SlC.nil, Newer.nil, Pre.app _ _⟩

theorem parted_mem {x y z : Int} (hS : Sides x y z) {p : Cell → Bool} {hg : Bool} : pick x y z (parted x y z (fun d => decide (d ∈ pick x y z p)) hg) = pick x y z (parted x y z p hg) := by
  have hm : ∀ e, e.inBox x y z → decide (e ∈ pick x y z p) = p e := fun e he => by
    rw [Bool.eq_iff_iff, decide_eq_true_iff, mem_pick hS]; exact ⟨fun h => h.2, fun h => ⟨he, h⟩⟩
  refine pick_congr hS fun d hd => ?_
  unfold parted
  rw [stand_congr hm]
  simp only [hm d hd]
theorem parted_t {x y z : Int} (hS : Sides x y z) {p : Cell → Bool} : pick x y z (parted x y z p true) = pick x y z (hang x y z p) := pick_congr hS fun d _ => by unfold parted hang; cases stand x y z p d <;> rfl
theorem parted_f {x y z : Int} (hS : Sides x y z) {p : Cell → Bool} : pick x y z (parted x y z p false) = pick x y z (stand x y z p) := pick_congr hS fun d _ => by
  unfold parted
  cases hs : stand x y z p d with
  | true => rw [stand_sub hs]; rfl
  | false => simp

theorem h_sSinkHeap {x y z : Int} {t : Nat} {w : Bool} {cs : List Cell} {M : Mem} (h : Live M t (.row (triL cs) w 3)) (hn : cs.length ≤ 1000000000) :
    CallsR PG F.spec_SinkHeap [.agg [.I x, .I y, .I z, .ref t 0 cs.length]] M (HeapRes M (sinkOf x y z cs) [.I (sinkTimes x y z cs)]) := by
  refine callsR_run K.spec_SinkHeap rfl ?_
  simp (disch := omega) only [C.spec_SinkHeap, ↓SXd, SXu, slBounds, ↓sop, ↓aop, ↓reduceIte, LV.cells, AOp.dst, LV.I, LV.B, LV.U, LV.S, LV.nil, Nat.reduceEqDiff, Nat.reduceAdd, Nat.reduceMul, Nat.reduceSub, Nat.reduceLeDiff, Nat.reduceBEq, Nat.reduceDiv, Nat.reduceMod, Int.reduceToNat, Int.reduceLT, Int.reduceLE, Int.reduceAdd, Int.reduceSub, Int.reduceMul, Int.reduceEq, Int.reduceNeg, reduceCtorEq, resV, resAll, ARes.ev, LV.flat, ite_true, ite_false, exists_eq_left', exists_eq_left, keyOf, implies_true, fillC, capOf]
  refine callK_of (h_l2Heap (Has.app h.has) hn) ?_
  simp (disch := omega) only [↓SXd, SXu, slBounds, ↓sop, ↓aop, ↓reduceIte, LV.cells, AOp.dst, LV.I, LV.B, LV.U, LV.S, LV.nil, Nat.reduceEqDiff, Nat.reduceAdd, Nat.reduceMul, Nat.reduceSub, Nat.reduceLeDiff, Nat.reduceBEq, Nat.reduceDiv, Nat.reduceMod, Int.reduceToNat, Int.reduceLT, Int.reduceLE, Int.reduceAdd, Int.reduceSub, Int.reduceMul, Int.reduceEq, Int.reduceNeg, reduceCtorEq, resV, resAll, ARes.ev, LV.flat, ite_true, ite_false, exists_eq_left', exists_eq_left, keyOf, implies_true, fillC, capOf]
  unfold sinkOf sinkTimes
  by_cases hH : HeapOK x y z cs
  · have hS := hH.1
    have hlen := hH.len
    rw [if_pos hH, if_pos hH]
    simp (disch := omega) only [hH, ↓SXd, SXu, slBounds, ↓sop, ↓aop, ↓reduceIte, LV.cells, AOp.dst, LV.I, LV.B, LV.U, LV.S, LV.nil, Nat.reduceEqDiff, Nat.reduceAdd, Nat.reduceMul, Nat.reduceSub, Nat.reduceLeDiff, Nat.reduceBEq, Nat.reduceDiv, Nat.reduceMod, Int.reduceToNat, Int.reduceLT, Int.reduceLE, Int.reduceAdd, Int.reduceSub, Int.reduceMul, Int.reduceEq, Int.reduceNeg, reduceCtorEq, resV, resAll, ARes.ev, LV.flat, ite_true, ite_false, exists_eq_left', exists_eq_left, keyOf, implies_true, fillC, capOf]
    refine callK_of (h_l2Own (Has.app h.has) hn) ?_
    simp (disch := omega) only [splice, ↓SXd, SXu, slBounds, ↓sop, ↓aop, ↓reduceIte, LV.cells, AOp.dst, LV.I, LV.B, LV.U, LV.S, LV.nil, Nat.reduceEqDiff, Nat.reduceAdd, Nat.reduceMul, Nat.reduceSub, Nat.reduceLeDiff, Nat.reduceBEq, Nat.reduceDiv, Nat.reduceMod, Int.reduceToNat, Int.reduceLT, Int.reduceLE, Int.reduceAdd, Int.reduceSub, Int.reduceMul, Int.reduceEq, Int.reduceNeg, reduceCtorEq, resV, resAll, ARes.ev, LV.flat, ite_true, ite_false, exists_eq_left', exists_eq_left, keyOf, implies_true, fillC, capOf]
    refine ev_loop (fun m fr M' => ∃ (p : Cell → Bool) (k v : Nat), k + m = 1000 ∧ sumC (pick x y z p) < m ∧ (sink x y z 1000 fun c => decide (c ∈ cs)) = ((sink x y z m p).1, k + (sink x y z m p).2) ∧ Pre M M' ∧ Live M' (M.length + 1) (.row [.I 0, .I 0, .I 0, .nil] true 0) ∧
      Live M' (M.length + 3) (.row [.I x, .I y, .I z, .ref v 0 (pick x y z p).length] true 0) ∧ Live M' v (.row (triL (pick x y z p)) true 3) ∧ M.length ≤ v ∧
      fr 2 = .ptr (M.length + 1) 0 ∧ fr 5 = .ptr (M.length + 3) 0 ∧ fr 6 = .I k) 1000
      ⟨fun c => decide (c ∈ cs), 0, M.length + 2, rfl, sumC_le hS _, by simp, Pre.app _ _, Live.newj rfl, by rw [← hH.pick]; exact Live.newj rfl, by rw [← hH.pick]; exact Live.newj rfl, by omega, rfl, rfl, rfl⟩ ?_
    rintro m fr M' ⟨p, k, v, hk, hm, hsk, hpre, b2, b5, bv, hv, f2, f5, f6⟩
    have hlM := b5.lt
    have hHp := pick_ok hS p
    simp (disch := omega) only [f2, f5, f6, b5.cells, ↓SXd, SXu, slBounds, ↓sop, ↓aop, ↓reduceIte, LV.cells, AOp.dst, LV.I, LV.B, LV.U, LV.S, LV.nil, Nat.reduceEqDiff, Nat.reduceAdd, Nat.reduceMul, Nat.reduceSub, Nat.reduceLeDiff, Nat.reduceBEq, Nat.reduceDiv, Nat.reduceMod, Int.reduceToNat, Int.reduceLT, Int.reduceLE, Int.reduceAdd, Int.reduceSub, Int.reduceMul, Int.reduceEq, Int.reduceNeg, reduceCtorEq, resV, resAll, ARes.ev, LV.flat, ite_true, ite_false, exists_eq_left', exists_eq_left, keyOf, implies_true, fillC, capOf]
    have hc1 := h_l7Parted (hang := true) bv hHp
    rw [parted_mem hS, parted_t hS] at hc1
    refine callN_of hc1 ?_
    intro tn N2 htn hp2 hnr
    have hpl := pick_len hS (hang x y z p)
    have hfh := firm_hang hS (p := p)
    rw [parted_t hS] at hfh
    obtain ⟨m', rfl⟩ : ∃ m', m = m' + 1 := ⟨m - 1, by omega⟩
    have hlN2 := hp2.1
    simp (disch := omega) only [f2, f5, f6, ↓SXd, SXu, slBounds, ↓sop, ↓aop, ↓reduceIte, LV.cells, AOp.dst, LV.I, LV.B, LV.U, LV.S, LV.nil, Nat.reduceEqDiff, Nat.reduceAdd, Nat.reduceMul, Nat.reduceSub, Nat.reduceLeDiff, Nat.reduceBEq, Nat.reduceDiv, Nat.reduceMod, Int.reduceToNat, Int.reduceLT, Int.reduceLE, Int.reduceAdd, Int.reduceSub, Int.reduceMul, Int.reduceEq, Int.reduceNeg, reduceCtorEq, resV, resAll, ARes.ev, LV.flat, ite_true, ite_false, exists_eq_left', exists_eq_left, keyOf, implies_true, fillC, capOf]
    refine condC_dec (fun hz => ?_) (fun hz => ?_)
    · have hF := hfh.1 (by omega)
      have hs0 : sink x y z (m' + 1) p = (p, 0) := by simp only [sink, if_pos hF]
      rw [hs0] at hsk
      simp only [Nat.add_zero] at hsk
      rw [hsk]
      simp (disch := omega) only [f2, f5, f6, (b5.pre hp2).cells, ↓SXd, SXu, slBounds, ↓sop, ↓aop, ↓reduceIte, LV.cells, AOp.dst, LV.I, LV.B, LV.U, LV.S, LV.nil, Nat.reduceEqDiff, Nat.reduceAdd, Nat.reduceMul, Nat.reduceSub, Nat.reduceLeDiff, Nat.reduceBEq, Nat.reduceDiv, Nat.reduceMod, Int.reduceToNat, Int.reduceLT, Int.reduceLE, Int.reduceAdd, Int.reduceSub, Int.reduceMul, Int.reduceEq, Int.reduceNeg, reduceCtorEq, resV, resAll, ARes.ev, LV.flat, ite_true, ite_false, exists_eq_left', exists_eq_left, keyOf, implies_true, fillC, capOf]
      refine memK_box (b2.pre hp2) (by simp) fun N3 k1 k2 k3 => ?_
      simp (disch := omega) only [f2, f5, f6, k2.cells, ↓SXd, SXu, slBounds, ↓sop, ↓aop, ↓reduceIte, LV.cells, AOp.dst, LV.I, LV.B, LV.U, LV.S, LV.nil, Nat.reduceEqDiff, Nat.reduceAdd, Nat.reduceMul, Nat.reduceSub, Nat.reduceLeDiff, Nat.reduceBEq, Nat.reduceDiv, Nat.reduceMod, Int.reduceToNat, Int.reduceLT, Int.reduceLE, Int.reduceAdd, Int.reduceSub, Int.reduceMul, Int.reduceEq, Int.reduceNeg, reduceCtorEq, resV, resAll, ARes.ev, LV.flat, ite_true, ite_false, exists_eq_left', exists_eq_left, keyOf, implies_true, fillC, capOf]
      exact ⟨_, rfl, SlC.of (live_step (bv.pre hp2) (bv.ne_esz b2 (by decide)) k3), Newer.of hv, pre_step (hpre.trans hp2) (by omega) (j := 0) k1 k3⟩
    · have hF : ¬ Firm x y z p := fun e => hz (by have := hfh.2 e; omega)
      have hs1 : sink x y z (m' + 1) p = ((sink x y z m' (sinkNext x y z p)).1, (sink x y z m' (sinkNext x y z p)).2 + 1) := by simp only [sink, if_neg hF]
      rw [hs1] at hsk
      have hlt := sink_less hS hF
      have c2 := b2.pre hp2
      have c5 := b5.pre hp2
      have cv := bv.pre hp2
      simp (disch := omega) only [f2, f5, f6, c5.cells, ↓SXd, SXu, slBounds, ↓sop, ↓aop, ↓reduceIte, LV.cells, AOp.dst, LV.I, LV.B, LV.U, LV.S, LV.nil, Nat.reduceEqDiff, Nat.reduceAdd, Nat.reduceMul, Nat.reduceSub, Nat.reduceLeDiff, Nat.reduceBEq, Nat.reduceDiv, Nat.reduceMod, Int.reduceToNat, Int.reduceLT, Int.reduceLE, Int.reduceAdd, Int.reduceSub, Int.reduceMul, Int.reduceEq, Int.reduceNeg, reduceCtorEq, resV, resAll, ARes.ev, LV.flat, ite_true, ite_false, exists_eq_left', exists_eq_left, keyOf, implies_true, fillC, capOf]
      have hc2 := h_l7Parted (hang := false) cv hHp
      rw [parted_mem hS, parted_f hS] at hc2
      refine callN_of hc2 ?_
      intro ts N3 hts hp3 hsr
      have hlN3 := hp3.1
      have e0 : N2[M.length + 3]? = _ := c5
      have e1 : N3[M.length + 3]? = _ := c5.pre hp3
      simp (disch := omega) only [f2, f5, f6, e0, e1, ↓SXd, SXu, slBounds, ↓sop, ↓aop, ↓reduceIte, LV.cells, AOp.dst, LV.I, LV.B, LV.U, LV.S, LV.nil, Nat.reduceEqDiff, Nat.reduceAdd, Nat.reduceMul, Nat.reduceSub, Nat.reduceLeDiff, Nat.reduceBEq, Nat.reduceDiv, Nat.reduceMod, Int.reduceToNat, Int.reduceLT, Int.reduceLE, Int.reduceAdd, Int.reduceSub, Int.reduceMul, Int.reduceEq, Int.reduceNeg, reduceCtorEq, resV, resAll, ARes.ev, LV.flat, ite_true, ite_false, exists_eq_left', exists_eq_left, keyOf, implies_true, fillC, capOf]
      refine callK_of (h_l2Made hsr.lt) ?_
      simp (disch := omega) only [f2, f5, f6, ↓SXd, SXu, slBounds, ↓sop, ↓aop, ↓reduceIte, LV.cells, AOp.dst, LV.I, LV.B, LV.U, LV.S, LV.nil, Nat.reduceEqDiff, Nat.reduceAdd, Nat.reduceMul, Nat.reduceSub, Nat.reduceLeDiff, Nat.reduceBEq, Nat.reduceDiv, Nat.reduceMod, Int.reduceToNat, Int.reduceLT, Int.reduceLE, Int.reduceAdd, Int.reduceSub, Int.reduceMul, Int.reduceEq, Int.reduceNeg, reduceCtorEq, resV, resAll, ARes.ev, LV.flat, ite_true, ite_false, exists_eq_left', exists_eq_left, keyOf, implies_true, fillC, capOf]
      refine memK_box (c5.pre hp3) (by simp) fun N4 k1 k2 k3 => ?_
      simp (disch := omega) only [f2, f5, f6, ↓SXd, SXu, slBounds, ↓sop, ↓aop, ↓reduceIte, LV.cells, AOp.dst, LV.I, LV.B, LV.U, LV.S, LV.nil, Nat.reduceEqDiff, Nat.reduceAdd, Nat.reduceMul, Nat.reduceSub, Nat.reduceLeDiff, Nat.reduceBEq, Nat.reduceDiv, Nat.reduceMod, Int.reduceToNat, Int.reduceLT, Int.reduceLE, Int.reduceAdd, Int.reduceSub, Int.reduceMul, Int.reduceEq, Int.reduceNeg, reduceCtorEq, resV, resAll, ARes.ev, LV.flat, ite_true, ite_false, exists_eq_left', exists_eq_left, keyOf, implies_true, fillC, capOf]
      refine ev_loop (fun m2 fr N => ∃ (i v : Nat), i + m2 = (pick x y z (hang x y z p)).length ∧ Pre M N ∧ Live N (M.length + 1) (.row [.I 0, .I 0, .I 0, .nil] true 0) ∧ Live N tn (.row (triL (pick x y z (hang x y z p))) true 3) ∧
        Live N (M.length + 3) (.row [.I x, .I y, .I z, .ref v 0 (pick x y z (sinkK x y z p i)).length] true 0) ∧ Live N v (.row (triL (pick x y z (sinkK x y z p i))) true 3) ∧ M.length ≤ v ∧
        fr 2 = .ptr (M.length + 1) 0 ∧ fr 5 = .ptr (M.length + 3) 0 ∧ fr 6 = .I k ∧ fr 7 = .ref tn 0 (pick x y z (hang x y z p)).length ∧ fr 8 = .I i) (pick x y z (hang x y z p)).length
        ⟨0, ts, by omega, pre_step ((hpre.trans hp2).trans hp3) (by omega) (j := 0) k1 k3, live_step (c2.pre hp3) (by omega) k3, live_step (hnr.pre hp3) (hnr.ne_esz c5 (by decide)) k3, ?_, ?_, by have := hpre.1; omega, f2, f5, f6, rfl, rfl⟩ ?_
      · rw [show pick x y z (sinkK x y z p 0) = pick x y z (stand x y z p) from pick_congr hS fun d _ => by simp [sinkK]]; exact k2
      · rw [show pick x y z (sinkK x y z p 0) = pick x y z (stand x y z p) from pick_congr hS fun d _ => by simp [sinkK]]; exact live_step hsr (by omega) k3
      clear f2 f5 f6 k2 b2 b5 bv c2 c5 cv hnr hsr e0 e1
      rintro m2 fr N ⟨i, v, hi, hpre, b2, hnr, b5, bv, hv, f2, f5, f6, f7, f8⟩
      simp (disch := omega) only [f2, f5, f6, f7, f8, ↓SXd, SXu, slBounds, ↓sop, ↓aop, ↓reduceIte, LV.cells, AOp.dst, LV.I, LV.B, LV.U, LV.S, LV.nil, Nat.reduceEqDiff, Nat.reduceAdd, Nat.reduceMul, Nat.reduceSub, Nat.reduceLeDiff, Nat.reduceBEq, Nat.reduceDiv, Nat.reduceMod, Int.reduceToNat, Int.reduceLT, Int.reduceLE, Int.reduceAdd, Int.reduceSub, Int.reduceMul, Int.reduceEq, Int.reduceNeg, reduceCtorEq, resV, resAll, ARes.ev, LV.flat, ite_true, ite_false, exists_eq_left', exists_eq_left, keyOf, implies_true, fillC, capOf]
      refine condC_dec (fun hlt2 => ?_) (fun hlt2 => ?_)
      · have hil : i < (pick x y z (hang x y z p)).length := by omega
        obtain ⟨q1, q2⟩ := (mem_pick hS).1 (getD_mem' (d := default) hil)
        obtain ⟨u1, u2⟩ := hang_up hS q1 q2
        have hz := q1.2.2
        have hz4 := hS.2.2
        have hst := sinkK_step hS hil
        have hga := Tri.get_a (cs := pick x y z (hang x y z p)) hnr.has hil
        have hgb := Tri.get_b (cs := pick x y z (hang x y z p)) hnr.has hil
        have hgc := Tri.get_c (cs := pick x y z (hang x y z p)) hnr.has hil
        rw [Nat.zero_add] at hga hgb hgc
        generalize (pick x y z (hang x y z p)).getD i default = c at hga hgb hgc q1 q2 u1 u2 hz hst
        simp (disch := omega) only [f2, f5, f6, f7, f8, b5.cells, hga, hgb, hgc, splice, ↓SXd, SXu, slBounds, ↓sop, ↓aop, ↓reduceIte, LV.cells, AOp.dst, LV.I, LV.B, LV.U, LV.S, LV.nil, Nat.reduceEqDiff, Nat.reduceAdd, Nat.reduceMul, Nat.reduceSub, Nat.reduceLeDiff, Nat.reduceBEq, Nat.reduceDiv, Nat.reduceMod, Int.reduceToNat, Int.reduceLT, Int.reduceLE, Int.reduceAdd, Int.reduceSub, Int.reduceMul, Int.reduceEq, Int.reduceNeg, reduceCtorEq, resV, resAll, ARes.ev, LV.flat, ite_true, ite_false, exists_eq_left', exists_eq_left, keyOf, implies_true, fillC, capOf]
        refine callH_of (h_l2With bv (pick_ok hS _) (c := down c) u2) ?_
        intro v2 N5 hv2 hp5 hvr
        have hpe : pick x y z (fun d => decide (d ∈ pick x y z (sinkK x y z p i)) || decide (d = down c)) = pick x y z (sinkK x y z p (i + 1)) := pick_congr hS fun d hd => by
          rw [hst]
          congr 1
          rw [Bool.eq_iff_iff, decide_eq_true_iff, mem_pick hS]; exact ⟨fun h => h.2, fun h => ⟨hd, h⟩⟩
        rw [hpe] at hvr ⊢
        have hl5 := hp5.1
        have hlb := b5.lt
        have hlp := hpre.1
        simp (disch := omega) only [f2, f5, f6, f7, f8, ↓SXd, SXu, slBounds, ↓sop, ↓aop, ↓reduceIte, LV.cells, AOp.dst, LV.I, LV.B, LV.U, LV.S, LV.nil, Nat.reduceEqDiff, Nat.reduceAdd, Nat.reduceMul, Nat.reduceSub, Nat.reduceLeDiff, Nat.reduceBEq, Nat.reduceDiv, Nat.reduceMod, Int.reduceToNat, Int.reduceLT, Int.reduceLE, Int.reduceAdd, Int.reduceSub, Int.reduceMul, Int.reduceEq, Int.reduceNeg, reduceCtorEq, resV, resAll, ARes.ev, LV.flat, ite_true, ite_false, exists_eq_left', exists_eq_left, keyOf, implies_true, fillC, capOf]
        refine memK_box (b5.pre hp5) (by simp) fun N6 j1 j2 j3 => ?_
        simp (disch := omega) only [f2, f5, f6, f7, f8, ↓SXd, SXu, slBounds, ↓sop, ↓aop, ↓reduceIte, LV.cells, AOp.dst, LV.I, LV.B, LV.U, LV.S, LV.nil, Nat.reduceEqDiff, Nat.reduceAdd, Nat.reduceMul, Nat.reduceSub, Nat.reduceLeDiff, Nat.reduceBEq, Nat.reduceDiv, Nat.reduceMod, Int.reduceToNat, Int.reduceLT, Int.reduceLE, Int.reduceAdd, Int.reduceSub, Int.reduceMul, Int.reduceEq, Int.reduceNeg, reduceCtorEq, resV, resAll, ARes.ev, LV.flat, ite_true, ite_false, exists_eq_left', exists_eq_left, keyOf, implies_true, fillC, capOf]
        exact ⟨m2 - 1, by omega, i + 1, v2, by omega, pre_step (hpre.trans hp5) (by omega) (j := 0) j1 j3, live_step (b2.pre hp5) (by omega) j3, live_step (hnr.pre hp5) (hnr.ne_esz b5 (by decide)) j3, j2, live_step hvr (by omega) j3, by omega, f2, f5, f6, f7, eqI (natI _)⟩
      · simp (disch := omega) only [f2, f5, f6, f7, f8, ↓SXd, SXu, slBounds, ↓sop, ↓aop, ↓reduceIte, LV.cells, AOp.dst, LV.I, LV.B, LV.U, LV.S, LV.nil, Nat.reduceEqDiff, Nat.reduceAdd, Nat.reduceMul, Nat.reduceSub, Nat.reduceLeDiff, Nat.reduceBEq, Nat.reduceDiv, Nat.reduceMod, Int.reduceToNat, Int.reduceLT, Int.reduceLE, Int.reduceAdd, Int.reduceSub, Int.reduceMul, Int.reduceEq, Int.reduceNeg, reduceCtorEq, resV, resAll, ARes.ev, LV.flat, ite_true, ite_false, exists_eq_left', exists_eq_left, keyOf, implies_true, fillC, capOf]
        have : i = (pick x y z (hang x y z p)).length := by omega
        subst this
        rw [pick_congr hS fun d hd => sinkK_all hS hd] at b5 bv
        exact ⟨m', by omega, sinkNext x y z p, k + 1, v, by omega, by omega, by rw [hsk]; simp only [Prod.mk.injEq, true_and]; omega, hpre, b2, b5, bv, hv, f2, f5, eqI (natI _)⟩
  · rw [if_neg hH, if_neg hH]
    simp (disch := omega) only [hH, fillC, splice, ↓SXd, SXu, slBounds, ↓sop, ↓aop, ↓reduceIte, LV.cells, AOp.dst, LV.I, LV.B, LV.U, LV.S, LV.nil, Nat.reduceEqDiff, Nat.reduceAdd, Nat.reduceMul, Nat.reduceSub, Nat.reduceLeDiff, Nat.reduceBEq, Nat.reduceDiv, Nat.reduceMod, Int.reduceToNat, Int.reduceLT, Int.reduceLE, Int.reduceAdd, Int.reduceSub, Int.reduceMul, Int.reduceEq, Int.reduceNeg, reduceCtorEq, resV, resAll, ARes.ev, LV.flat, ite_true, ite_false, exists_eq_left', exists_eq_left, keyOf, implies_true, fillC, capOf]
    exact ⟨_, rfl, SlC.nil, Newer.nil, Pre.app _ _⟩
end Go.Ab

/- The abstract code of some functions (written by a program of mine from the translation, by way of prepF). -/
namespace Go.Ab.C
open Go.Ab
end Go.Ab.C
