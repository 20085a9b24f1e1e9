/- Parts of the proof of FnTakingSaid: C_Bu K_Bu C_Ol K_Ol C_Og K_Og C_Of K_Of Oe Of C_Nc K_Nc Nc Og Oi Ol C_Oj K_Oj. -/
import Derived.Test.YtebgcnpkhojejaaA3
import Derived.Test.YtebgcnpkhojejaaA4
import Derived.Test.YtebgcnpkhojejaaProg
import Derived.KernelRfl
import Derived.Test.YtebgcnpkhojejaaA6
import Derived.Test.YtebgcnpkhojejaaA5
set_option linter.all false
/- The abstract code of some functions (written by a program of mine from the translation, by way of prepF). -/
namespace Go.Ab.C
open Go.Ab
def spec_CanTake : AFn :=
 ⟨2, 18, [.tmp 4, .tmp 5],
 .seq (.ops [(none, .box 2 (.t 0)),
 (none, .box 3 (.t 1)),
 (none, .mv 4 (.c (.B false))),
 (none, .mv 5 (.c (.B false)))])
 (.seq (.seq (.ops [(none, .loadN 6 4 (.t 2)),
 (none, .call (some 7) F.spec_l7Stands [(.t 6)]),
 (none, .un 8 .not (.t 7)),
 (none, .mv 9 (.t 8)),
 (some (9, false), .loadN 10 4 (.t 2)),
 (some (9, false), .loadN 11 3 (.t 3)),
 (some (9, false), .call (some 12) F.spec_l2In [(.t 10), (.t 11)]),
 (some (9, false), .un 13 .not (.t 12)),
 (none, .pick 14 (.t 9) (.c (.B true)) (.t 13))])
 (.cond (.t 14) (.seq (.ops [(none, .mv 4 (.c (.B false))),
 (none, .mv 5 (.c (.B false)))])
 (.ret))
 (.skip)))
 (.seq (.ops [(none, .loadN 15 4 (.t 2)),
 (none, .loadN 16 3 (.t 3)),
 (none, .call (some 17) F.spec_l7Can [(.t 15), (.t 16)]),
 (none, .mv 4 (.t 17)),
 (none, .mv 5 (.c (.B true)))])
 (.ret)))⟩
def spec_KeyCubes : AFn :=
 ⟨1, 35, [.tmp 2, .tmp 3],
 .seq (.ops [(none, .box 1 (.t 0)),
 (none, .mv 2 (.c .nil)),
 (none, .mv 3 (.c (.B false)))])
 (.seq (.ops [(none, .buildSl 6 0 3 [] []),
 (none, .mv 4 (.t 6))])
 (.seq (.seq (.ops [(none, .loadN 7 4 (.t 1)),
 (none, .call (some 8) F.spec_l7Stands [(.t 7)]),
 (none, .un 9 .not (.t 8))])
 (.cond (.t 9) (.seq (.ops [(none, .mv 10 (.t 4)),
 (none, .mv 2 (.t 10)),
 (none, .mv 3 (.c (.B false)))])
 (.ret))
 (.skip)))
 (.seq (.seq (.ops [(none, .mv 5 (.c (.I 0)))])
 (.block 0 (.loop (.seq (.seq (.ops [(none, .mv 11 (.t 5)),
 (none, .fieldAddr 12 (.t 1) 3),
 (none, .load1 13 (.t 12)),
 (none, .len 14 (.t 13)),
 (none, .bin 15 .lss (.t 11) (.t 14))])
 (.cond (.t 15) (.skip)
 (.exit 0)))
 (.seq (.block 1 (.seq (.draw [⟨(none, .loadN 18 4 (.t 1)), [], []⟩,
 ⟨(none, .fieldAddr 19 (.t 1) 3), [], []⟩,
 ⟨(none, .load1 20 (.t 19)), [], []⟩,
 ⟨(none, .mv 21 (.t 5)), [], []⟩,
 ⟨(none, .idxS 22 3 (.t 20) (.t 21)), [], []⟩,
 ⟨(none, .loadN 23 3 (.t 22)), [], []⟩,
 ⟨(none, .call (some 24) F.spec_l7Can [(.t 18), (.t 23)]), [], []⟩,
 ⟨(none, .un 25 .not (.t 24)), [], []⟩])
 (.cond (.t 25) (.ops [(none, .mv 26 (.t 4)),
 (none, .fieldAddr 27 (.t 1) 3),
 (none, .load1 28 (.t 27)),
 (none, .mv 29 (.t 5)),
 (none, .idxS 30 3 (.t 28) (.t 29)),
 (none, .loadN 31 3 (.t 30)),
 (none, .buildSl 32 1 3 [(.I 0), (.I 0), (.I 0)] [(0, 3, (.t 31))]),
 (none, .append 33 3 24 (.t 26) (.t 32)),
 (none, .mv 4 (.t 33))])
 (.skip))))
 (.ops [(none, .mv 16 (.t 5)),
 (none, .bin 17 .add (.t 16) (.c (.I 1))),
 (none, .mv 5 (.t 17))]))))))
 (.seq (.ops [(none, .mv 34 (.t 4)),
 (none, .mv 2 (.t 34)),
 (none, .mv 3 (.c (.B true)))])
 (.ret)))))⟩
def spec_IsTakingOrder : AFn :=
 ⟨2, 33, [.tmp 4, .tmp 5],
 .seq (.ops [(none, .box 2 (.t 0)),
 (none, .mv 4 (.c (.B false))),
 (none, .mv 5 (.c (.B false)))])
 (.seq (.seq (.ops [(none, .loadN 7 4 (.t 2)),
 (none, .call (some 8) F.spec_l7Stands [(.t 7)]),
 (none, .un 9 .not (.t 8))])
 (.cond (.t 9) (.seq (.ops [(none, .mv 4 (.c (.B false))),
 (none, .mv 5 (.c (.B false)))])
 (.ret))
 (.skip)))
 (.seq (.seq (.ops [(none, .mv 6 (.c (.I 0)))])
 (.block 0 (.loop (.seq (.seq (.ops [(none, .mv 10 (.t 6)),
 (none, .mv 11 (.t 1)),
 (none, .len 12 (.t 11)),
 (none, .bin 13 .lss (.t 10) (.t 12))])
 (.cond (.t 13) (.skip)
 (.exit 0)))
 (.seq (.block 1 (.seq (.seq (.draw [⟨(none, .loadN 16 4 (.t 2)), [], []⟩,
 ⟨(none, .mv 17 (.t 1)), [], []⟩,
 ⟨(none, .mv 18 (.t 6)), [], []⟩,
 ⟨(none, .idxS 19 3 (.t 17) (.t 18)), [], []⟩,
 ⟨(none, .loadN 20 3 (.t 19)), [], []⟩,
 ⟨(none, .call (some 21) F.spec_l7Can [(.t 16), (.t 20)]), [], []⟩,
 ⟨(none, .un 22 .not (.t 21)), [], []⟩])
 (.cond (.t 22) (.seq (.ops [(none, .mv 4 (.c (.B false))),
 (none, .mv 5 (.c (.B true)))])
 (.ret))
 (.skip)))
 (.draw [⟨(none, .loadN 23 4 (.t 2)), [], []⟩,
 ⟨(none, .mv 24 (.t 1)), [], []⟩,
 ⟨(none, .mv 25 (.t 6)), [], []⟩,
 ⟨(none, .idxS 26 3 (.t 24) (.t 25)), [], []⟩,
 ⟨(none, .loadN 27 3 (.t 26)), [], []⟩,
 ⟨(none, .call (some 28) F.spec_l2Without [(.t 23), (.t 27)]), [], []⟩,
 ⟨(none, .store 4 (.t 2) (.t 28)), [], []⟩])))
 (.ops [(none, .mv 14 (.t 6)),
 (none, .bin 15 .add (.t 14) (.c (.I 1))),
 (none, .mv 6 (.t 15))]))))))
 (.seq (.ops [(none, .fieldAddr 29 (.t 2) 3),
 (none, .load1 30 (.t 29)),
 (none, .len 31 (.t 30)),
 (none, .bin 32 .eql (.t 31) (.c (.I 0))),
 (none, .mv 4 (.t 32)),
 (none, .mv 5 (.c (.B true)))])
 (.ret))))⟩
def spec_CountTakings : AFn :=
 ⟨1, 15, [.tmp 2, .tmp 3],
 .seq (.ops [(none, .box 1 (.t 0)),
 (none, .mv 2 (.c (.I 0))),
 (none, .mv 3 (.c (.B false)))])
 (.seq (.seq (.ops [(none, .loadN 4 4 (.t 1)),
 (none, .call (some 5) F.spec_l7Stands [(.t 4)]),
 (none, .un 6 .not (.t 5)),
 (none, .mv 7 (.t 6)),
 (some (7, false), .fieldAddr 8 (.t 1) 3),
 (some (7, false), .load1 9 (.t 8)),
 (some (7, false), .len 10 (.t 9)),
 (some (7, false), .bin 11 .gtr (.t 10) (.c (.I 8))),
 (none, .pick 12 (.t 7) (.c (.B true)) (.t 11))])
 (.cond (.t 12) (.seq (.ops [(none, .mv 2 (.c (.I 0))),
 (none, .mv 3 (.c (.B false)))])
 (.ret))
 (.skip)))
 (.seq (.ops [(none, .loadN 13 4 (.t 1)),
 (none, .call (some 14) F.spec_l7Takings [(.t 13)]),
 (none, .mv 2 (.t 14)),
 (none, .mv 3 (.c (.B true)))])
 (.ret)))⟩
def spec_l7Takings : AFn :=
 ⟨1, 34, [.tmp 2],
 .seq (.ops [(none, .box 1 (.t 0)),
 (none, .mv 2 (.c (.I 0)))])
 (.seq (.seq (.ops [(none, .fieldAddr 5 (.t 1) 3),
 (none, .load1 6 (.t 5)),
 (none, .len 7 (.t 6)),
 (none, .bin 8 .eql (.t 7) (.c (.I 0)))])
 (.cond (.t 8) (.seq (.ops [(none, .mv 2 (.c (.I 1)))])
 (.ret))
 (.skip)))
 (.seq (.ops [(none, .mv 3 (.c (.I 0)))])
 (.seq (.seq (.ops [(none, .mv 4 (.c (.I 0)))])
 (.block 0 (.loop (.seq (.seq (.ops [(none, .mv 9 (.t 4)),
 (none, .fieldAddr 10 (.t 1) 3),
 (none, .load1 11 (.t 10)),
 (none, .len 12 (.t 11)),
 (none, .bin 13 .lss (.t 9) (.t 12))])
 (.cond (.t 13) (.skip)
 (.exit 0)))
 (.seq (.block 1 (.seq (.draw [⟨(none, .loadN 16 4 (.t 1)), [], []⟩,
 ⟨(none, .fieldAddr 17 (.t 1) 3), [], []⟩,
 ⟨(none, .load1 18 (.t 17)), [], []⟩,
 ⟨(none, .mv 19 (.t 4)), [], []⟩,
 ⟨(none, .idxS 20 3 (.t 18) (.t 19)), [], []⟩,
 ⟨(none, .loadN 21 3 (.t 20)), [], []⟩,
 ⟨(none, .call (some 22) F.spec_l7Can [(.t 16), (.t 21)]), [], []⟩])
 (.cond (.t 22) (.draw [⟨(none, .mv 23 (.t 3)), [], []⟩,
 ⟨(none, .loadN 24 4 (.t 1)), [], []⟩,
 ⟨(none, .fieldAddr 25 (.t 1) 3), [], []⟩,
 ⟨(none, .load1 26 (.t 25)), [], []⟩,
 ⟨(none, .mv 27 (.t 4)), [], []⟩,
 ⟨(none, .idxS 28 3 (.t 26) (.t 27)), [], []⟩,
 ⟨(none, .loadN 29 3 (.t 28)), [], []⟩,
 ⟨(none, .call (some 30) F.spec_l2Without [(.t 24), (.t 29)]), [], [0]⟩,
 ⟨(none, .call (some 31) F.spec_l7Takings [(.t 30)]), [], [0]⟩,
 ⟨(none, .bin 32 .add (.t 23) (.t 31)), [], []⟩,
 ⟨(none, .mv 3 (.t 32)), [], []⟩])
 (.skip))))
 (.ops [(none, .mv 14 (.t 4)),
 (none, .bin 15 .add (.t 14) (.c (.I 1))),
 (none, .mv 4 (.t 15))]))))))
 (.seq (.ops [(none, .mv 33 (.t 3)),
 (none, .mv 2 (.t 33))])
 (.ret)))))⟩
end Go.Ab.C

/- That the program has this code. -/
namespace Go.Ab.K
open Go Go.Ab
theorem spec_CanTake : prepF Go.Proofs.Try.prog F.spec_CanTake = some C.spec_CanTake := by kernel_rfl
theorem spec_KeyCubes : prepF Go.Proofs.Try.prog F.spec_KeyCubes = some C.spec_KeyCubes := by kernel_rfl
theorem spec_IsTakingOrder : prepF Go.Proofs.Try.prog F.spec_IsTakingOrder = some C.spec_IsTakingOrder := by kernel_rfl
theorem spec_CountTakings : prepF Go.Proofs.Try.prog F.spec_CountTakings = some C.spec_CountTakings := by kernel_rfl
theorem spec_l7Takings : prepF Go.Proofs.Try.prog F.spec_l7Takings = some C.spec_l7Takings := by kernel_rfl
end Go.Ab.K

/- The abstract code of some functions (written by a program of mine from the translation, by way of prepF). -/
namespace Go.Ab.C
open Go.Ab
def impl_TakingOrder : AFn :=
 ⟨1, 36, [.tmp 2, .tmp 3],
 .seq (.ops [(none, .box 1 (.t 0)),
 (none, .mv 2 (.c .nil)),
 (none, .mv 3 (.c (.B false)))])
 (.seq (.seq (.ops [(none, .loadN 8 4 (.t 1)),
 (none, .call (some 9) F.impl_isStanding [(.t 8)]),
 (none, .un 10 .not (.t 9))])
 (.cond (.t 10) (.seq (.ops [(none, .mv 2 (.c .nil)),
 (none, .mv 3 (.c (.B false)))])
 (.ret))
 (.skip)))
 (.seq (.ops [(none, .buildSl 11 0 3 [] []),
 (none, .loadN 12 4 (.t 1)),
 (none, .call (some 13) F.impl_Heap_box [(.t 12)]),
 (none, .alloc 5 [(.I 0), (.I 0), (.I 0)]),
 (none, .mv 4 (.t 11)),
 (none, .store 3 (.t 5) (.t 13))])
 (.seq (.seq (.ops [(none, .loadN 14 4 (.t 1)),
 (none, .call (some 15) F.impl_Heap_cubes [(.t 14)]),
 (none, .mv 6 (.t 15))])
 (.block 0 (.loop (.seq (.seq (.ops [(none, .mv 16 (.t 6)),
 (none, .bin 17 .neq (.t 16) (.c (.U 0)))])
 (.cond (.t 17) (.skip)
 (.exit 0)))
 (.block 1 (.seq (.ops [(none, .loadN 18 3 (.t 5)),
 (none, .mv 19 (.t 6)),
 (none, .call (some 20) F.impl_box_takeable [(.t 18), (.t 19)]),
 (none, .mv 7 (.t 20))])
 (.seq (.ops [(none, .mv 21 (.t 6)),
 (none, .mv 22 (.t 7)),
 (none, .mv 23 (.t 7)),
 (none, .un 24 .neg (.t 23)),
 (none, .bin 25 .and (.t 22) (.t 24)),
 (none, .bin 26 .andNot (.t 21) (.t 25)),
 (none, .mv 6 (.t 26))])
 (.ops [(none, .mv 27 (.t 4)),
 (none, .loadN 28 3 (.t 5)),
 (none, .mv 29 (.t 7)),
 (none, .call (some 30) F.impl_box_list [(.t 28), (.t 29)]),
 (none, .idxS 31 3 (.t 30) (.c (.I 0))),
 (none, .loadN 32 3 (.t 31)),
 (none, .buildSl 33 1 3 [(.I 0), (.I 0), (.I 0)] [(0, 3, (.t 32))]),
 (none, .append 34 3 24 (.t 27) (.t 33)),
 (none, .mv 4 (.t 34))]))))))))
 (.seq (.ops [(none, .mv 35 (.t 4)),
 (none, .mv 2 (.t 35)),
 (none, .mv 3 (.c (.B true)))])
 (.ret)))))⟩
def spec_TakingOrder : AFn :=
 ⟨1, 41, [.tmp 2, .tmp 3],
 .seq (.ops [(none, .box 1 (.t 0)),
 (none, .mv 2 (.c .nil)),
 (none, .mv 3 (.c (.B false)))])
 (.seq (.ops [(none, .buildSl 6 0 3 [] []),
 (none, .mv 4 (.t 6))])
 (.seq (.seq (.ops [(none, .loadN 7 4 (.t 1)),
 (none, .call (some 8) F.spec_l7Stands [(.t 7)]),
 (none, .un 9 .not (.t 8))])
 (.cond (.t 9) (.seq (.ops [(none, .mv 10 (.t 4)),
 (none, .mv 2 (.t 10)),
 (none, .mv 3 (.c (.B false)))])
 (.ret))
 (.skip)))
 (.seq (.block 0 (.loop (.seq (.seq (.ops [(none, .fieldAddr 11 (.t 1) 3),
 (none, .load1 12 (.t 11)),
 (none, .len 13 (.t 12)),
 (none, .bin 14 .gtr (.t 13) (.c (.I 0)))])
 (.cond (.t 14) (.skip)
 (.exit 0)))
 (.block 1 (.seq (.ops [(none, .mv 5 (.c (.I 0)))])
 (.seq (.block 2 (.loop (.seq (.seq (.draw [⟨(none, .loadN 15 4 (.t 1)), [], []⟩,
 ⟨(none, .fieldAddr 16 (.t 1) 3), [], []⟩,
 ⟨(none, .load1 17 (.t 16)), [], []⟩,
 ⟨(none, .mv 18 (.t 5)), [], []⟩,
 ⟨(none, .idxS 19 3 (.t 17) (.t 18)), [], []⟩,
 ⟨(none, .loadN 20 3 (.t 19)), [], []⟩,
 ⟨(none, .call (some 21) F.spec_l7Can [(.t 15), (.t 20)]), [], []⟩,
 ⟨(none, .un 22 .not (.t 21)), [], []⟩])
 (.cond (.t 22) (.skip)
 (.exit 2)))
 (.block 3 (.ops [(none, .mv 23 (.t 5)),
 (none, .bin 24 .add (.t 23) (.c (.I 1))),
 (none, .mv 5 (.t 24))])))))
 (.seq (.ops [(none, .mv 25 (.t 4)),
 (none, .fieldAddr 26 (.t 1) 3),
 (none, .load1 27 (.t 26)),
 (none, .mv 28 (.t 5)),
 (none, .idxS 29 3 (.t 27) (.t 28)),
 (none, .loadN 30 3 (.t 29)),
 (none, .buildSl 31 1 3 [(.I 0), (.I 0), (.I 0)] [(0, 3, (.t 30))]),
 (none, .append 32 3 24 (.t 25) (.t 31)),
 (none, .mv 4 (.t 32))])
 (.draw [⟨(none, .loadN 33 4 (.t 1)), [], []⟩,
 ⟨(none, .fieldAddr 34 (.t 1) 3), [], []⟩,
 ⟨(none, .load1 35 (.t 34)), [], []⟩,
 ⟨(none, .mv 36 (.t 5)), [], []⟩,
 ⟨(none, .idxS 37 3 (.t 35) (.t 36)), [], []⟩,
 ⟨(none, .loadN 38 3 (.t 37)), [], []⟩,
 ⟨(none, .call (some 39) F.spec_l2Without [(.t 33), (.t 38)]), [], []⟩,
 ⟨(none, .store 4 (.t 1) (.t 39)), [], []⟩]))))))))
 (.seq (.ops [(none, .mv 40 (.t 4)),
 (none, .mv 2 (.t 40)),
 (none, .mv 3 (.c (.B true)))])
 (.ret)))))⟩
end Go.Ab.C

/- That the program has this code. -/
namespace Go.Ab.K
open Go Go.Ab
theorem impl_TakingOrder : prepF Go.Proofs.Try.prog F.impl_TakingOrder = some C.impl_TakingOrder := by kernel_rfl
theorem spec_TakingOrder : prepF Go.Proofs.Try.prog F.spec_TakingOrder = some C.spec_TakingOrder := by kernel_rfl
end Go.Ab.K

/- The abstract code of some functions (written by a program of mine from the translation, by way of prepF). -/
namespace Go.Ab.C
open Go.Ab
def impl_box_floor : AFn :=
 ⟨1, 5, [.tmp 2],
 .seq (.ops [(none, .box 1 (.t 0)),
 (none, .mv 2 (.c (.U 0)))])
 (.seq (.ops [(none, .loadN 3 3 (.t 1)),
 (none, .call (some 4) F.impl_box_those [(.t 3), (.c (.clo F.impl_box_floor_1 []))]),
 (none, .mv 2 (.t 4))])
 (.ret))⟩
def impl_box_floor_1 : AFn :=
 ⟨1, 6, [.tmp 2],
 .seq (.ops [(none, .box 1 (.t 0)),
 (none, .mv 2 (.c (.B false)))])
 (.seq (.ops [(none, .idxA 3 3 1 (.t 1) (.c (.I 2))),
 (none, .load1 4 (.t 3)),
 (none, .bin 5 .eql (.t 4) (.c (.I 0))),
 (none, .mv 2 (.t 5))])
 (.ret))⟩
def impl_box_standing : AFn :=
 ⟨2, 12, [.tmp 4],
 .seq (.ops [(none, .box 2 (.t 0)),
 (none, .mv 4 (.c (.U 0)))])
 (.seq (.draw [⟨(none, .loadN 5 3 (.t 2)), [], []⟩,
 ⟨(none, .mv 6 (.t 1)), [], []⟩,
 ⟨(none, .loadN 7 3 (.t 2)), [], []⟩,
 ⟨(none, .mv 10 (.t 1)), [], []⟩,
 ⟨(none, .call (some 8) F.impl_box_floor [(.t 7)]), [], [0, 1, 3]⟩,
 ⟨(none, .bin 9 .and (.t 6) (.t 8)), [], []⟩,
 ⟨(none, .call (some 11) F.impl_box_grown [(.t 5), (.t 9), (.t 10)]), [], []⟩,
 ⟨(none, .mv 4 (.t 11)), [], []⟩])
 (.ret))⟩
def impl_box_stands : AFn :=
 ⟨2, 10, [.tmp 4],
 .seq (.ops [(none, .box 2 (.t 0)),
 (none, .mv 4 (.c (.B false)))])
 (.seq (.ops [(none, .loadN 5 3 (.t 2)),
 (none, .mv 6 (.t 1)),
 (none, .call (some 7) F.impl_box_standing [(.t 5), (.t 6)]),
 (none, .mv 8 (.t 1)),
 (none, .bin 9 .eql (.t 7) (.t 8)),
 (none, .mv 4 (.t 9))])
 (.ret))⟩
def impl_isStanding : AFn :=
 ⟨1, 12, [.tmp 2],
 .seq (.ops [(none, .box 1 (.t 0)),
 (none, .mv 2 (.c (.B false)))])
 (.seq (.draw [⟨(none, .loadN 3 4 (.t 1)), [], []⟩,
 ⟨(none, .call (some 4) F.impl_IsHeap [(.t 3)]), [], []⟩,
 ⟨(none, .mv 5 (.t 4)), [], []⟩,
 ⟨(some (5, true), .loadN 6 4 (.t 1)), [], []⟩,
 ⟨(some (5, true), .loadN 8 4 (.t 1)), [], []⟩,
 ⟨(some (5, true), .call (some 7) F.impl_Heap_box [(.t 6)]), [], [4]⟩,
 ⟨(some (5, true), .call (some 9) F.impl_Heap_cubes [(.t 8)]), [], []⟩,
 ⟨(some (5, true), .call (some 10) F.impl_box_stands [(.t 7), (.t 9)]), [], []⟩,
 ⟨(none, .pick 11 (.t 5) (.t 10) (.c (.B false))), [], []⟩,
 ⟨(none, .mv 2 (.t 11)), [], []⟩])
 (.ret))⟩
def spec_l7Stands : AFn :=
 ⟨1, 11, [.tmp 2],
 .seq (.ops [(none, .box 1 (.t 0)),
 (none, .mv 2 (.c (.B false)))])
 (.seq (.ops [(none, .loadN 3 4 (.t 1)),
 (none, .call (some 4) F.spec_l2Heap [(.t 3)]),
 (none, .mv 5 (.t 4)),
 (some (5, true), .loadN 6 4 (.t 1)),
 (some (5, true), .call (some 7) F.spec_l7Parted [(.t 6), (.c (.B true))]),
 (some (5, true), .len 8 (.t 7)),
 (some (5, true), .bin 9 .eql (.t 8) (.c (.I 0))),
 (none, .pick 10 (.t 5) (.t 9) (.c (.B false))),
 (none, .mv 2 (.t 10))])
 (.ret))⟩
def spec_l7Can : AFn :=
 ⟨2, 16, [.tmp 4],
 .seq (.ops [(none, .box 2 (.t 0)),
 (none, .box 3 (.t 1)),
 (none, .mv 4 (.c (.B false)))])
 (.seq (.ops [(none, .loadN 5 4 (.t 2)),
 (none, .loadN 6 3 (.t 3)),
 (none, .call (some 7) F.spec_l2Has [(.t 5), (.t 6)]),
 (none, .mv 8 (.t 7)),
 (some (8, true), .loadN 9 4 (.t 2)),
 (some (8, true), .loadN 10 3 (.t 3)),
 (some (8, true), .call (some 11) F.spec_l2Without [(.t 9), (.t 10)]),
 (some (8, true), .call (some 12) F.spec_l7Parted [(.t 11), (.c (.B true))]),
 (some (8, true), .len 13 (.t 12)),
 (some (8, true), .bin 14 .eql (.t 13) (.c (.I 0))),
 (none, .pick 15 (.t 8) (.t 14) (.c (.B false))),
 (none, .mv 4 (.t 15))])
 (.ret))⟩
def impl_box_takeable : AFn :=
 ⟨2, 8, [.tmp 4],
 .seq (.ops [(none, .box 2 (.t 0)),
 (none, .box 3 (.t 1)),
 (none, .mv 4 (.c (.U 0)))])
 (.seq (.ops [(none, .loadN 5 3 (.t 2)),
 (none, .mkf 6 F.impl_box_takeable_1 [(.t 2), (.t 3)]),
 (none, .call (some 7) F.impl_box_those [(.t 5), (.t 6)]),
 (none, .mv 4 (.t 7))])
 (.ret))⟩
def impl_box_takeable_1 : AFn :=
 ⟨3, 21, [.tmp 4],
 .seq (.ops [(none, .box 3 (.t 0)),
 (none, .mv 4 (.c (.B false)))])
 (.seq (.ops [(none, .loadN 6 3 (.t 1)),
 (none, .loadN 7 3 (.t 3)),
 (none, .call (some 8) F.impl_box_index [(.t 6), (.t 7)]),
 (none, .bin 9 .shl (.c (.U 1)) (.t 8)),
 (none, .mv 5 (.t 9))])
 (.seq (.ops [(none, .load1 10 (.t 2)),
 (none, .mv 11 (.t 5)),
 (none, .bin 12 .and (.t 10) (.t 11)),
 (none, .bin 13 .neq (.t 12) (.c (.U 0))),
 (none, .mv 14 (.t 13)),
 (some (14, true), .loadN 15 3 (.t 1)),
 (some (14, true), .load1 16 (.t 2)),
 (some (14, true), .mv 17 (.t 5)),
 (some (14, true), .bin 18 .andNot (.t 16) (.t 17)),
 (some (14, true), .call (some 19) F.impl_box_stands [(.t 15), (.t 18)]),
 (none, .pick 20 (.t 14) (.t 19) (.c (.B false))),
 (none, .mv 4 (.t 20))])
 (.ret)))⟩
end Go.Ab.C

/- That the program has this code. -/
namespace Go.Ab.K
open Go Go.Ab
theorem impl_box_floor : prepF Go.Proofs.Try.prog F.impl_box_floor = some C.impl_box_floor := by kernel_rfl
theorem impl_box_floor_1 : prepF Go.Proofs.Try.prog F.impl_box_floor_1 = some C.impl_box_floor_1 := by kernel_rfl
theorem impl_box_standing : prepF Go.Proofs.Try.prog F.impl_box_standing = some C.impl_box_standing := by kernel_rfl
theorem impl_box_stands : prepF Go.Proofs.Try.prog F.impl_box_stands = some C.impl_box_stands := by kernel_rfl
theorem impl_isStanding : prepF Go.Proofs.Try.prog F.impl_isStanding = some C.impl_isStanding := by kernel_rfl
theorem spec_l7Stands : prepF Go.Proofs.Try.prog F.spec_l7Stands = some C.spec_l7Stands := by kernel_rfl
theorem spec_l7Can : prepF Go.Proofs.Try.prog F.spec_l7Can = some C.spec_l7Can := by kernel_rfl
theorem impl_box_takeable : prepF Go.Proofs.Try.prog F.impl_box_takeable = some C.impl_box_takeable := by kernel_rfl
theorem impl_box_takeable_1 : prepF Go.Proofs.Try.prog F.impl_box_takeable_1 = some C.impl_box_takeable_1 := by kernel_rfl
end Go.Ab.K

/- The abstract code of some functions (written by a program of mine from the translation, by way of prepF). -/
namespace Go.Ab.C
open Go.Ab
def spec_l7Parted : AFn :=
 ⟨2, 72, [.tmp 4],
 .seq (.ops [(none, .box 2 (.t 0)),
 (none, .mv 4 (.c .nil))])
 (.seq (.draw [⟨(none, .loadN 11 4 (.t 2)), [], []⟩,
 ⟨(none, .fieldAddr 13 (.t 2) 0), [], []⟩,
 ⟨(none, .load1 14 (.t 13)), [], []⟩,
 ⟨(none, .fieldAddr 15 (.t 2) 1), [], []⟩,
 ⟨(none, .load1 16 (.t 15)), [], []⟩,
 ⟨(none, .fieldAddr 17 (.t 2) 2), [], []⟩,
 ⟨(none, .load1 18 (.t 17)), [], []⟩,
 ⟨(none, .alloc 6 [(.I 0), (.I 0), (.I 0), .nil]), [], []⟩,
 ⟨(none, .call (some 12) F.spec_l2Parts [(.t 11)]), [7], [1, 2, 3, 4, 5, 6]⟩,
 ⟨(none, .call (some 19) F.spec_l2Empty [(.t 14), (.t 16), (.t 18)]), [7], []⟩,
 ⟨(none, .mv 5 (.t 12)), [], []⟩,
 ⟨(none, .store 4 (.t 6) (.t 19)), [], []⟩])
 (.seq (.seq (.ops [(none, .mv 7 (.c (.I 0)))])
 (.block 0 (.loop (.seq (.seq (.ops [(none, .mv 20 (.t 7)),
 (none, .mv 21 (.t 5)),
 (none, .len 22 (.t 21)),
 (none, .bin 23 .lss (.t 20) (.t 22))])
 (.cond (.t 23) (.skip)
 (.exit 0)))
 (.seq (.block 1 (.seq (.ops [(none, .mv 8 (.c (.B false)))])
 (.seq (.seq (.ops [(none, .mv 9 (.c (.I 0)))])
 (.block 2 (.loop (.seq (.seq (.ops [(none, .mv 26 (.t 9)),
 (none, .mv 27 (.t 5)),
 (none, .mv 28 (.t 7)),
 (none, .idxS 29 1 (.t 27) (.t 28)),
 (none, .load1 30 (.t 29)),
 (none, .len 31 (.t 30)),
 (none, .bin 32 .lss (.t 26) (.t 31))])
 (.cond (.t 32) (.skip)
 (.exit 2)))
 (.seq (.block 3 (.ops [(none, .mv 35 (.t 8)),
 (none, .mv 36 (.t 35)),
 (some (36, false), .mv 37 (.t 5)),
 (some (36, false), .mv 38 (.t 7)),
 (some (36, false), .idxS 39 1 (.t 37) (.t 38)),
 (some (36, false), .load1 40 (.t 39)),
 (some (36, false), .mv 41 (.t 9)),
 (some (36, false), .idxS 42 3 (.t 40) (.t 41)),
 (some (36, false), .idxA 43 3 1 (.t 42) (.c (.I 2))),
 (some (36, false), .load1 44 (.t 43)),
 (some (36, false), .bin 45 .eql (.t 44) (.c (.I 0))),
 (none, .pick 46 (.t 36) (.c (.B true)) (.t 45)),
 (none, .mv 8 (.t 46))]))
 (.ops [(none, .mv 33 (.t 9)),
 (none, .bin 34 .add (.t 33) (.c (.I 1))),
 (none, .mv 9 (.t 34))]))))))
 (.seq (.ops [(none, .mv 10 (.c (.I 0)))])
 (.block 4 (.loop (.seq (.seq (.ops [(none, .mv 47 (.t 10)),
 (none, .mv 48 (.t 5)),
 (none, .mv 49 (.t 7)),
 (none, .idxS 50 1 (.t 48) (.t 49)),
 (none, .load1 51 (.t 50)),
 (none, .len 52 (.t 51)),
 (none, .bin 53 .lss (.t 47) (.t 52)),
 (none, .mv 54 (.t 53)),
 (some (54, true), .mv 55 (.t 8)),
 (some (54, true), .mv 56 (.t 1)),
 (some (54, true), .eqb 57 true (.t 55) (.t 56)),
 (none, .pick 58 (.t 54) (.t 57) (.c (.B false)))])
 (.cond (.t 58) (.skip)
 (.exit 4)))
 (.seq (.block 5 (.draw [⟨(none, .loadN 61 4 (.t 6)), [], []⟩,
 ⟨(none, .mv 62 (.t 5)), [], []⟩,
 ⟨(none, .mv 63 (.t 7)), [], []⟩,
 ⟨(none, .idxS 64 1 (.t 62) (.t 63)), [], []⟩,
 ⟨(none, .load1 65 (.t 64)), [], []⟩,
 ⟨(none, .mv 66 (.t 10)), [], []⟩,
 ⟨(none, .idxS 67 3 (.t 65) (.t 66)), [], []⟩,
 ⟨(none, .loadN 68 3 (.t 67)), [], []⟩,
 ⟨(none, .call (some 69) F.spec_l2With [(.t 61), (.t 68)]), [], []⟩,
 ⟨(none, .store 4 (.t 6) (.t 69)), [], []⟩]))
 (.ops [(none, .mv 59 (.t 10)),
 (none, .bin 60 .add (.t 59) (.c (.I 1))),
 (none, .mv 10 (.t 60))])))))))))
 (.ops [(none, .mv 24 (.t 7)),
 (none, .bin 25 .add (.t 24) (.c (.I 1))),
 (none, .mv 7 (.t 25))]))))))
 (.seq (.ops [(none, .fieldAddr 70 (.t 6) 3),
 (none, .load1 71 (.t 70)),
 (none, .mv 4 (.t 71))])
 (.ret))))⟩
end Go.Ab.C

/- That the program has this code. -/
namespace Go.Ab.K
open Go Go.Ab
theorem spec_l7Parted : prepF Go.Proofs.Try.prog F.spec_l7Parted = some C.spec_l7Parted := by kernel_rfl
end Go.Ab.K

/- Plain words: what stands and what hangs, by parts and by growing. -/
namespace Go.Ab

theorem Reach.symm {x y z : Int} {q : Cell → Bool} {c d : Cell} (hc : c.inBox x y z) (hqc : q c = true) (h : Reach x y z (fun e => decide (e = c)) q d) : Reach x y z (fun e => decide (e = d)) q c ∧ q d = true := by
  induction h with
  | base h1 h2 => rw [of_decide_eq_true h2]; exact ⟨.base hc (by simp), hqc⟩
  | @step a b h1 h2 h3 h4 ih =>
    refine ⟨?_, h4⟩
    have hb : Reach x y z (fun e => decide (e = b)) q b := .base h3 (by simp)
    have hba : Reach x y z (fun e => decide (e = b)) q a := .step hb (by rw [apart_comm]; exact h2) h1.inBox ih.2
    have htr : ∀ {u}, Reach x y z (fun e => decide (e = a)) q u → Reach x y z (fun e => decide (e = b)) q u := fun hu =>
      hu.mono (fun e _ he => by rw [of_decide_eq_true he]; exact hba) fun _ _ h => h
    exact htr ih.1
theorem Reach.trans {x y z : Int} {q p : Cell → Bool} {c d : Cell} (h : Reach x y z p q c) (k : Reach x y z (fun e => decide (e = c)) q d) : Reach x y z p q d :=
  k.mono (fun e _ he => by rw [of_decide_eq_true he]; exact h) fun _ _ h => h

section
variable {x y z : Int} (hS : Sides x y z)
include hS
/-- Each part is what one of its cells reaches, and each cell is in a part. -/
theorem parts_spec : ∀ (f : Nat) (q : Cell → Bool), (pick x y z q).length < f →
    (∀ l ∈ parts x y z f q, ∃ c, c.inBox x y z ∧ q c = true ∧ l = pick x y z (reach x y z (fun d => decide (d = c)) q)) ∧ ∀ d, d.inBox x y z → q d = true → ∃ l ∈ parts x y z f q, d ∈ l
  | 0, q, h => by omega
  | f + 1, q, h => by
    cases hpk : pick x y z q with
    | nil =>
      simp only [parts, hpk]
      refine ⟨fun l hl => by simp at hl, fun d hd hq => ?_⟩
      have := (mem_pick hS (p := q) (c := d)).2 ⟨hd, hq⟩
      rw [hpk] at this; simp at this
    | cons c rs =>
      have hcq := (mem_pick hS (p := q) (c := c)).1 (by rw [hpk]; simp)
      simp only [parts, hpk]
      have hlt := filter_lt hS (l := cellsOf x y z) (p := fun d => q d && !reach x y z (fun d => decide (d = c)) q d) (q := q) (fun a _ ha => by simp only [Bool.and_eq_true] at ha; exact ha.1)
        ⟨c, (mem_cellsOf hS).2 hcq.1, hcq.2, by rw [(reach_iff (c := c)).2 (.base hcq.1 (by simp))]; simp⟩
      obtain ⟨h1, h2⟩ := parts_spec f (fun d => q d && !reach x y z (fun d => decide (d = c)) q d) (by unfold pick at h ⊢; omega)
      have key : ∀ a, a.inBox x y z → q a = true → reach x y z (fun d => decide (d = c)) q a = false → ∀ d, reach x y z (fun d => decide (d = a)) q d = reach x y z (fun d => decide (d = a)) (fun d => q d && !reach x y z (fun d => decide (d = c)) q d) d := by
        intro a ha hqa hna d
        rw [Bool.eq_iff_iff, reach_iff, reach_iff]
        constructor
        · intro hr
          refine hr.ind (P := fun e => Reach x y z (fun d => decide (d = a)) (fun d => q d && !reach x y z (fun d => decide (d = c)) q d) e) (fun e he1 he2 => .base he1 he2) (fun e e' he hab hb hq => ?_)
          refine .step he hab hb ?_
          rw [Bool.and_eq_true]
          refine ⟨hq, ?_⟩
          cases hh : reach x y z (fun d => decide (d = c)) q e' with
          | false => rfl
          | true =>
            exfalso
            have hre' := reach_iff.1 hh
            have hqe : q e = true := by
              cases he with
              | base h1 h2 => rw [of_decide_eq_true h2]; exact hqa
              | step _ _ _ h4 => simp only [Bool.and_eq_true] at h4; exact h4.1
            have hrea : Reach x y z (fun d => decide (d = a)) q e := he.mono (fun u hu1 hu2 => .base hu1 hu2) fun u _ hu => by simp only [Bool.and_eq_true] at hu; exact hu.1
            have hce : Reach x y z (fun d => decide (d = c)) q e := .step hre' (by rw [apart_comm]; exact hab) he.inBox hqe
            have hea := (Reach.symm ha hqa hrea).1
            have := (reach_iff (c := a)).2 (hce.trans hea)
            rw [hna] at this; cases this
        · intro hr
          exact hr.mono (fun u hu1 hu2 => .base hu1 hu2) fun u _ hu => by simp only [Bool.and_eq_true] at hu; exact hu.1
      refine ⟨fun l hl => ?_, fun d hd hq => ?_⟩
      · rcases List.mem_cons.1 hl with rfl | hl
        · exact ⟨c, hcq.1, hcq.2, rfl⟩
        · obtain ⟨a, ha1, ha2, ha3⟩ := h1 l hl
          simp only [Bool.and_eq_true, Bool.not_eq_true'] at ha2
          exact ⟨a, ha1, ha2.1, by rw [ha3]; exact (pick_congr hS fun d _ => key a ha1 ha2.1 ha2.2 d).symm⟩
      · cases hh : reach x y z (fun d => decide (d = c)) q d with
        | true => exact ⟨_, List.mem_cons_self .., (mem_pick hS).2 ⟨hd, hh⟩⟩
        | false =>
          obtain ⟨l, hl1, hl2⟩ := h2 d hd (by simp only [hq, hh]; rfl)
          exact ⟨l, List.mem_cons_of_mem _ hl1, hl2⟩

/-- What stands of a set. -/
noncomputable def stand (x y z : Int) (q : Cell → Bool) : Cell → Bool := reach x y z (fun e => q e && decide (e.c = 0)) q
theorem stand_part {f : Nat} {q : Cell → Bool} (hf : (pick x y z q).length < f) {l : List Cell} (hl : l ∈ parts x y z f q) {d : Cell} (hd : d ∈ l) : d.inBox x y z ∧ q d = true ∧ (stand x y z q d = true ↔ ∃ e ∈ l, e.c = 0) := by
  obtain ⟨c, h1, h2, rfl⟩ := (parts_spec hS f q hf).1 l hl
  obtain ⟨hd1, hd2⟩ := (mem_pick hS).1 hd
  have hrd := reach_iff.1 hd2
  have hqd := (Reach.symm h1 h2 hrd)
  refine ⟨hd1, hqd.2, ?_⟩
  unfold stand
  rw [reach_iff]
  constructor
  · intro hr
    -- a floor cell that reaches d
    have : ∃ e, e.inBox x y z ∧ q e = true ∧ e.c = 0 ∧ Reach x y z (fun u => decide (u = e)) q d := by
      refine hr.ind (P := fun d => ∃ e, e.inBox x y z ∧ q e = true ∧ e.c = 0 ∧ Reach x y z (fun u => decide (u = e)) q d) (fun e he1 he2 => ?_) (fun a b ha hab hb hq => ?_)
      · simp only [Bool.and_eq_true, decide_eq_true_eq] at he2
        exact ⟨e, he1, he2.1, he2.2, .base he1 (by simp)⟩
      · obtain ⟨e, k1, k2, k3, k4⟩ := ha
        exact ⟨e, k1, k2, k3, .step k4 hab hb hq⟩
    obtain ⟨e, k1, k2, k3, k4⟩ := this
    exact ⟨e, (mem_pick hS).2 ⟨k1, reach_iff.2 (hrd.trans (Reach.symm k1 k2 k4).1)⟩, k3⟩
  · rintro ⟨e, he, he0⟩
    obtain ⟨he1, he2⟩ := (mem_pick hS).1 he
    have hre := reach_iff.1 he2
    have hqe := Reach.symm h1 h2 hre
    have : Reach x y z (fun u => decide (u = e)) q d := hqe.1.trans hrd
    exact this.mono (fun u hu1 hu2 => by rw [of_decide_eq_true hu2]; exact .base he1 (by simp [hqe.2, he0])) fun _ _ h => h
/-- The cells that stand, or those that hang. -/
noncomputable def parted (x y z : Int) (q : Cell → Bool) (hang : Bool) : Cell → Bool := fun d => q d && (stand x y z q d != hang)
end

def floorOf (l : List Cell) : Bool := l.any fun e => decide (e.c = 0)
/-- The cells of the first k lists, of those on the floor, or of the others. -/
def selK (L : List (List Cell)) (hang : Bool) (k : Nat) : Cell → Bool := fun d => (L.take k).any fun l => (floorOf l != hang) && decide (d ∈ l)
theorem selK_succ {L : List (List Cell)} {hang : Bool} {k : Nat} (hk : k < L.length) (d : Cell) : selK L hang (k + 1) d = (selK L hang k d || ((floorOf (L.getD k []) != hang) && decide (d ∈ L.getD k []))) := by
  unfold selK
  rw [List.take_succ, List.getElem?_eq_getElem hk, List.any_append]
  simp [hk]
theorem selK_all {x y z : Int} (hS : Sides x y z) {f : Nat} {q : Cell → Bool} {hang : Bool} (hf : (pick x y z q).length < f) {d : Cell} (hd : d.inBox x y z) :
    selK (parts x y z f q) hang (parts x y z f q).length d = parted x y z q hang d := by
  have hsp := parts_spec hS f q hf
  unfold selK parted
  rw [List.take_length, Bool.eq_iff_iff, List.any_eq_true]
  have hfl : ∀ l ∈ parts x y z f q, d ∈ l → q d = true ∧ stand x y z q d = floorOf l := fun l hl hdl => by
    obtain ⟨_, h2, h3⟩ := stand_part hS hf hl hdl
    refine ⟨h2, ?_⟩
    rw [Bool.eq_iff_iff, h3]
    unfold floorOf
    simp [List.any_eq_true]
  constructor
  · rintro ⟨l, hl, h⟩
    simp only [Bool.and_eq_true, decide_eq_true_eq] at h
    obtain ⟨h1, h2⟩ := hfl l hl h.2
    rw [h1, h2, h.1]; rfl
  · intro h
    simp only [Bool.and_eq_true] at h
    obtain ⟨l, hl, hdl⟩ := hsp.2 d hd h.1
    obtain ⟨h1, h2⟩ := hfl l hl hdl
    refine ⟨l, hl, ?_⟩
    rw [h2] at h
    simp only [Bool.and_eq_true, decide_eq_true_eq]
    exact ⟨h.2, hdl⟩
theorem floor_take {l : List Cell} {j : Nat} (h : j < l.length) : floorOf (l.take (j + 1)) = (floorOf (l.take j) || decide ((l.getD j default).c = 0)) := by
  unfold floorOf
  rw [List.take_succ, List.getElem?_eq_getElem h, List.any_append]
  simp [h]
theorem parts_len {x y z : Int} : ∀ (f : Nat) (q : Cell → Bool), (parts x y z f q).length ≤ f
  | 0, _ => by simp [parts]
  | f + 1, q => by
    cases h : pick x y z q with
    | nil => simp [parts, h]
    | cons c rs => simp only [parts, h, List.length_cons]; have := parts_len f (x := x) (y := y) (z := z) fun d => q d && !reach x y z (fun d => decide (d = c)) q d; omega
end Go.Ab

/- Contracts: the reference's cubes that stand or hang. -/
namespace Go.Ab
open Go
set_option linter.unusedSimpArgs false
set_option linter.unusedVariables false

theorem h_l7Parted {x y z : Int} {t : Nat} {w hang : Bool} {cs : List Cell} {M : Mem} (h : Live M t (.row (triL cs) w 3)) (hH : HeapOK x y z cs) :
    CallsTo PG F.spec_l7Parted [.agg [.I x, .I y, .I z, .ref t 0 cs.length], .B hang] M (.ref M.length 0 (pick x y z (parted x y z (fun d => decide (d ∈ cs)) hang)).length) (M ++ [some (.row (triL (pick x y z (parted x y z (fun d => decide (d ∈ cs)) hang))) true 3)]) := by
  have hS := hH.1
  have hn := hH.len
  have ht := h.lt
  refine calls_run K.spec_l7Parted rfl ?_
  simp (disch := omega) only [C.spec_l7Parted, ↓SXd, SXu, slBounds, ↓sop, ↓aop, ↓reduceIte, LV.cells, AOp.dst, LV.I, LV.B, LV.U, LV.S, LV.nil, Nat.reduceEqDiff, Nat.reduceAdd, Nat.reduceMul, Nat.reduceSub, Nat.reduceLeDiff, Nat.reduceBEq, Nat.reduceDiv, Nat.reduceMod, Int.reduceToNat, Int.reduceLT, Int.reduceLE, Int.reduceAdd, Int.reduceSub, Int.reduceMul, Int.reduceEq, Int.reduceNeg, reduceCtorEq, resV, resAll, ARes.ev, LV.flat, ite_true, ite_false, exists_eq_left', exists_eq_left, keyOf, implies_true, fillC, capOf]
  refine callR_of (h_l2Parts (h.app) hH) ?_
  rintro _ N ⟨u, refs, rfl, hu, hrefs, hcss, hpre⟩
  simp (disch := omega) only [↓SXd, SXu, slBounds, ↓sop, ↓aop, ↓reduceIte, LV.cells, AOp.dst, LV.I, LV.B, LV.U, LV.S, LV.nil, Nat.reduceEqDiff, Nat.reduceAdd, Nat.reduceMul, Nat.reduceSub, Nat.reduceLeDiff, Nat.reduceBEq, Nat.reduceDiv, Nat.reduceMod, Int.reduceToNat, Int.reduceLT, Int.reduceLE, Int.reduceAdd, Int.reduceSub, Int.reduceMul, Int.reduceEq, Int.reduceNeg, reduceCtorEq, resV, resAll, ARes.ev, LV.flat, ite_true, ite_false, exists_eq_left', exists_eq_left, keyOf, implies_true, fillC, capOf]
  have b0 : Live N M.length (.row [.I x, .I y, .I z, .ref t 0 cs.length] true 0) := Live.new.pre hpre
  have hN1 : N[M.length + 1]? = some none := by rw [hpre.2 (M.length + 1) (by simp), at_j]; rfl
  have hNl : M.length + 2 ≤ N.length := by have := hpre.1; simpa using this
  have hpM : Pre M N := (Pre.app _ _).trans hpre
  have hu' : M.length + 2 ≤ u := by simpa using hu
  have hcss' : Css N (M.length + 2) N.length refs (parts x y z 65 fun d => decide (d ∈ cs)) := by simpa using hcss
  have hz : (N.set (M.length + 1) (some (Blk.row [.val (.int .i64 0), .val (.int .i64 0), .val (.int .i64 0), .val (.slice none 0 0)] true 0)))[M.length + 1]? = some (some (Blk.row [.val (.int .i64 0), .val (.int .i64 0), .val (.int .i64 0), .val (.slice none 0 0)] true 0)) := by rw [List.getElem?_set_self (by omega)]
  have hs : (N.set (M.length + 1) (some (Blk.row [.val (.int .i64 0), .val (.int .i64 0), .val (.int .i64 0), .val (.slice none 0 0)] true 0))).set (M.length + 1) none = N := by
    rw [List.set_set]
    apply List.ext_getElem?
    intro i
    by_cases e : M.length + 1 = i
    · subst e; rw [List.getElem?_set_self (by omega), hN1]
    · rw [List.getElem?_set_ne e]
  refine andK_mk (fun b e => by rw [← e]; exact b0.set_ne (by omega)) ?_
  rw [hs]
  refine callK_of h_l2Empty ?_
  simp (disch := omega) only [hz, ↓SXd, SXu, slBounds, ↓sop, ↓aop, ↓reduceIte, LV.cells, AOp.dst, LV.I, LV.B, LV.U, LV.S, LV.nil, Nat.reduceEqDiff, Nat.reduceAdd, Nat.reduceMul, Nat.reduceSub, Nat.reduceLeDiff, Nat.reduceBEq, Nat.reduceDiv, Nat.reduceMod, Int.reduceToNat, Int.reduceLT, Int.reduceLE, Int.reduceAdd, Int.reduceSub, Int.reduceMul, Int.reduceEq, Int.reduceNeg, reduceCtorEq, resV, resAll, ARes.ev, LV.flat, ite_true, ite_false, exists_eq_left', exists_eq_left, keyOf, implies_true, fillC, capOf]
  have c1 : Live ((N ++ [some (Blk.row [] true 3)]).set (M.length + 1) (some (Blk.row [.val (.int .i64 0), .val (.int .i64 0), .val (.int .i64 0), .val (.slice none 0 0)] true 0))) (M.length + 1) (.row [.val (.int .i64 0), .val (.int .i64 0), .val (.int .i64 0), .val (.slice none 0 0)] true 0) := by
    unfold Live; rw [List.getElem?_set_self (by simp; omega)]
  have c2 : Live ((N ++ [some (Blk.row [] true 3)]).set (M.length + 1) (some (Blk.row [.val (.int .i64 0), .val (.int .i64 0), .val (.int .i64 0), .val (.slice none 0 0)] true 0))) N.length (.row [] true 3) := Live.new.set_ne (by omega)
  have c3 : Live ((N ++ [some (Blk.row [] true 3)]).set (M.length + 1) (some (Blk.row [.val (.int .i64 0), .val (.int .i64 0), .val (.int .i64 0), .val (.slice none 0 0)] true 0))) u (.row refs true 1) := hrefs.app.set_ne (by omega)
  have c4 : Pre M ((N ++ [some (Blk.row [] true 3)]).set (M.length + 1) (some (Blk.row [.val (.int .i64 0), .val (.int .i64 0), .val (.int .i64 0), .val (.slice none 0 0)] true 0))) := (hpM.app').set (by omega)
  have c5 : Css ((N ++ [some (Blk.row [] true 3)]).set (M.length + 1) (some (Blk.row [.val (.int .i64 0), .val (.int .i64 0), .val (.int .i64 0), .val (.slice none 0 0)] true 0))) (M.length + 2) N.length refs (parts x y z 65 fun d => decide (d ∈ cs)) :=
    (hcss'.pre (Pre.app _ _)).keep (t := M.length + 1) (.inl (.inr (by omega))) fun v hv _ => List.getElem?_set_ne (fun e => hv e.symm)
  generalize (N ++ [some (Blk.row [] true 3)]).set (M.length + 1) (some (Blk.row [.val (.int .i64 0), .val (.int .i64 0), .val (.int .i64 0), .val (.slice none 0 0)] true 0)) = N1 at c1 c2 c3 c4 c5 ⊢
  refine memK_box c1 (by simp) fun N2 k1 k2 k3 => ?_
  have hul := hrefs.lt
  have d2 := live_step c2 (by omega) k3
  have d3 := live_step c3 (by omega) k3
  have d4 := pre_step c4 (by omega) (j := 0) k1 k3
  have d5 := c5.keep (.inl (.inr (by omega))) k3
  have hlen := hcss'.len
  have hall := fun d hd => selK_all hS (f := 65) (q := fun d => decide (d ∈ cs)) (hang := hang) (by rw [← hH.pick]; omega) (d := d) hd
  have hpin := fun l hl => (parts_spec hS 65 (fun d => decide (d ∈ cs)) (by rw [← hH.pick]; omega)).1 l hl
  have hLl := parts_len (x := x) (y := y) (z := z) 65 fun d => decide (d ∈ cs)
  generalize parts x y z 65 (fun d => decide (d ∈ cs)) = L at hlen hall d5 hpin hLl
  generalize hNN : N.length = nn at d2 d5 hul hNl k2
  clear c1 c2 c3 c4 c5 hs hz k1 k3 hcss hcss' hrefs b0 hN1 hpM hpre hu
  have hin : ∀ l ∈ L, (∀ c ∈ l, c.inBox x y z) ∧ l.length ≤ 64 := fun l hl => by
    obtain ⟨c, _, _, rfl⟩ := hpin l hl
    exact ⟨fun d hd => ((mem_pick hS).1 hd).1, pick_len hS _⟩
  clear hpin
  simp (disch := omega) only [↓SXd, SXu, slBounds, ↓sop, ↓aop, ↓reduceIte, LV.cells, AOp.dst, LV.I, LV.B, LV.U, LV.S, LV.nil, Nat.reduceEqDiff, Nat.reduceAdd, Nat.reduceMul, Nat.reduceSub, Nat.reduceLeDiff, Nat.reduceBEq, Nat.reduceDiv, Nat.reduceMod, Int.reduceToNat, Int.reduceLT, Int.reduceLE, Int.reduceAdd, Int.reduceSub, Int.reduceMul, Int.reduceEq, Int.reduceNeg, reduceCtorEq, resV, resAll, ARes.ev, LV.flat, ite_true, ite_false, exists_eq_left', exists_eq_left, keyOf, implies_true, fillC, capOf]
  refine ev_loop (fun m fr M' => ∃ (k tO : Nat), k + m = L.length ∧ Pre M M' ∧ Live M' (M.length + 1) (.row [.I x, .I y, .I z, .ref tO 0 (pick x y z (selK L hang k)).length] true 0) ∧ Live M' tO (.row (triL (pick x y z (selK L hang k))) true 3) ∧ M.length ≤ tO ∧ Live M' u (.row refs true 1) ∧ Css M' (M.length + 2) nn refs L ∧
    fr 1 = .B hang ∧ fr 5 = .ref u 0 refs.length ∧ fr 6 = .ptr (M.length + 1) 0 ∧ fr 7 = .I k) L.length
    ⟨0, nn, by omega, d4, ?_, ?_, by omega, d3, d5, rfl, rfl, rfl, rfl⟩ ?_
  · rw [show pick x y z (selK L hang 0) = [] by unfold pick; rw [List.filter_eq_nil_iff]; simp [selK]]; exact k2
  · rw [show pick x y z (selK L hang 0) = [] by unfold pick; rw [List.filter_eq_nil_iff]; simp [selK]]; exact d2
  clear d2 d3 d4 d5 k2
  rintro m fr M' ⟨k, tO, hk, hpre, hob, hor, htO, hrefs, hcss, f1, f5, f6, f7⟩
  simp (disch := omega) only [f1, f5, f6, f7, ↓SXd, SXu, slBounds, ↓sop, ↓aop, ↓reduceIte, LV.cells, AOp.dst, LV.I, LV.B, LV.U, LV.S, LV.nil, Nat.reduceEqDiff, Nat.reduceAdd, Nat.reduceMul, Nat.reduceSub, Nat.reduceLeDiff, Nat.reduceBEq, Nat.reduceDiv, Nat.reduceMod, Int.reduceToNat, Int.reduceLT, Int.reduceLE, Int.reduceAdd, Int.reduceSub, Int.reduceMul, Int.reduceEq, Int.reduceNeg, reduceCtorEq, resV, resAll, ARes.ev, LV.flat, ite_true, ite_false, exists_eq_left', exists_eq_left, keyOf, implies_true, fillC, capOf]
  refine condC_dec (fun hlt => ?_) (fun hlt => ?_)
  rotate_left
  · simp (disch := omega) only [f1, f5, f6, f7, hob.cell, ↓SXd, SXu, slBounds, ↓sop, ↓aop, ↓reduceIte, LV.cells, AOp.dst, LV.I, LV.B, LV.U, LV.S, LV.nil, Nat.reduceEqDiff, Nat.reduceAdd, Nat.reduceMul, Nat.reduceSub, Nat.reduceLeDiff, Nat.reduceBEq, Nat.reduceDiv, Nat.reduceMod, Int.reduceToNat, Int.reduceLT, Int.reduceLE, Int.reduceAdd, Int.reduceSub, Int.reduceMul, Int.reduceEq, Int.reduceNeg, reduceCtorEq, resV, resAll, ARes.ev, LV.flat, ite_true, ite_false, exists_eq_left', exists_eq_left, keyOf, implies_true, fillC, capOf]
    have hkL : k = L.length := by omega
    subst hkL
    rw [pick_congr hS hall] at hor ⊢
    exact cmp_keepL hpre htO hor (triL_lo _) (by simp [rn, rn0, rn1])
  · have hkl : k < L.length := by omega
    obtain ⟨hl1, hl2⟩ := hin _ (getD_mem' (d := []) hkl)
    obtain ⟨v, v1, v2, v3, v4⟩ := hcss.get hkl
    simp (disch := omega) only [f1, f5, f6, f7, ↓SXd, SXu, slBounds, ↓sop, ↓aop, ↓reduceIte, LV.cells, AOp.dst, LV.I, LV.B, LV.U, LV.S, LV.nil, Nat.reduceEqDiff, Nat.reduceAdd, Nat.reduceMul, Nat.reduceSub, Nat.reduceLeDiff, Nat.reduceBEq, Nat.reduceDiv, Nat.reduceMod, Int.reduceToNat, Int.reduceLT, Int.reduceLE, Int.reduceAdd, Int.reduceSub, Int.reduceMul, Int.reduceEq, Int.reduceNeg, reduceCtorEq, resV, resAll, ARes.ev, LV.flat, ite_true, ite_false, exists_eq_left', exists_eq_left, keyOf, implies_true, fillC, capOf]
    refine ev_loop (fun m2 fr N => ∃ j : Nat, j + m2 = (L.getD k []).length ∧ N = M' ∧ fr 1 = .B hang ∧ fr 5 = .ref u 0 refs.length ∧ fr 6 = .ptr (M.length + 1) 0 ∧ fr 7 = .I k ∧ fr 8 = .B (floorOf ((L.getD k []).take j)) ∧ fr 9 = .I j) (L.getD k []).length
      ⟨0, by omega, rfl, f1, f5, f6, f7, rfl, rfl⟩ ?_
    rintro m2 fr N ⟨j, hj, rfl, f1, f5, f6, f7, f8, f9⟩
    simp (disch := omega) only [f1, f5, f6, f7, f8, f9, hrefs.cell, v3, ↓SXd, SXu, slBounds, ↓sop, ↓aop, ↓reduceIte, LV.cells, AOp.dst, LV.I, LV.B, LV.U, LV.S, LV.nil, Nat.reduceEqDiff, Nat.reduceAdd, Nat.reduceMul, Nat.reduceSub, Nat.reduceLeDiff, Nat.reduceBEq, Nat.reduceDiv, Nat.reduceMod, Int.reduceToNat, Int.reduceLT, Int.reduceLE, Int.reduceAdd, Int.reduceSub, Int.reduceMul, Int.reduceEq, Int.reduceNeg, reduceCtorEq, resV, resAll, ARes.ev, LV.flat, ite_true, ite_false, exists_eq_left', exists_eq_left, keyOf, implies_true, fillC, capOf]
    refine condC_dec (fun hlt2 => ?_) (fun hlt2 => ?_)
    · have hjl : j < (L.getD k []).length := by omega
      have hst := floor_take hjl
      have hv4 : Tri N v 0 (L.getD k []) := v4.has
      have hg := hv4.get_c hjl
      rw [Nat.zero_add] at hg
      cases hfl : floorOf ((L.getD k []).take j) with
      | true =>
        rw [hfl, Bool.true_or] at hst
        rw [hfl] at f8
        simp (disch := omega) only [f1, f5, f6, f7, f8, f9, hrefs.cell, v3, ↓SXd, SXu, slBounds, ↓sop, ↓aop, ↓reduceIte, LV.cells, AOp.dst, LV.I, LV.B, LV.U, LV.S, LV.nil, Nat.reduceEqDiff, Nat.reduceAdd, Nat.reduceMul, Nat.reduceSub, Nat.reduceLeDiff, Nat.reduceBEq, Nat.reduceDiv, Nat.reduceMod, Int.reduceToNat, Int.reduceLT, Int.reduceLE, Int.reduceAdd, Int.reduceSub, Int.reduceMul, Int.reduceEq, Int.reduceNeg, reduceCtorEq, resV, resAll, ARes.ev, LV.flat, ite_true, ite_false, exists_eq_left', exists_eq_left, keyOf, implies_true, fillC, capOf]
        exact ⟨m2 - 1, by omega, j + 1, by omega, rfl, f1, f5, f6, f7, by rw [hst]; rfl, eqI (natI _)⟩
      | false =>
        rw [hfl, Bool.false_or] at hst
        rw [hfl] at f8
        simp (disch := omega) only [f1, f5, f6, f7, f8, f9, hrefs.cell, v3, hg, ↓SXd, SXu, slBounds, ↓sop, ↓aop, ↓reduceIte, LV.cells, AOp.dst, LV.I, LV.B, LV.U, LV.S, LV.nil, Nat.reduceEqDiff, Nat.reduceAdd, Nat.reduceMul, Nat.reduceSub, Nat.reduceLeDiff, Nat.reduceBEq, Nat.reduceDiv, Nat.reduceMod, Int.reduceToNat, Int.reduceLT, Int.reduceLE, Int.reduceAdd, Int.reduceSub, Int.reduceMul, Int.reduceEq, Int.reduceNeg, reduceCtorEq, resV, resAll, ARes.ev, LV.flat, ite_true, ite_false, exists_eq_left', exists_eq_left, keyOf, implies_true, fillC, capOf]
        exact ⟨m2 - 1, by omega, j + 1, by omega, rfl, f1, f5, f6, f7, by rw [hst]; rfl, eqI (natI _)⟩
    · have hje : j = (L.getD k []).length := by omega
      subst hje
      rw [List.take_length] at f8
      simp (disch := omega) only [f1, f5, f6, f7, f8, f9, ↓SXd, SXu, slBounds, ↓sop, ↓aop, ↓reduceIte, LV.cells, AOp.dst, LV.I, LV.B, LV.U, LV.S, LV.nil, Nat.reduceEqDiff, Nat.reduceAdd, Nat.reduceMul, Nat.reduceSub, Nat.reduceLeDiff, Nat.reduceBEq, Nat.reduceDiv, Nat.reduceMod, Int.reduceToNat, Int.reduceLT, Int.reduceLE, Int.reduceAdd, Int.reduceSub, Int.reduceMul, Int.reduceEq, Int.reduceNeg, reduceCtorEq, resV, resAll, ARes.ev, LV.flat, ite_true, ite_false, exists_eq_left', exists_eq_left, keyOf, implies_true, fillC, capOf]
      have hsucc := selK_succ (hang := hang) hkl
      have hpo := fun j => pick_ok hS fun d => selK L hang k d || decide (d ∈ (L.getD k []).take j)
      by_cases hfh : floorOf (L.getD k []) = hang
      · refine ev_loop (fun m2 fr N' => N' = N ∧ fr 1 = .B hang ∧ fr 5 = .ref u 0 refs.length ∧ fr 6 = .ptr (M.length + 1) 0 ∧ fr 7 = .I k ∧ fr 8 = .B hang ∧ fr 10 = .I 0) 0 ⟨rfl, f1, f5, f6, f7, by rw [← hfh]; exact f8, rfl⟩ ?_
        clear f1 f5 f6 f7 f8 f9
        rintro m2 fr N' ⟨rfl, f1, f5, f6, f7, f8, f10⟩
        have hsame : pick x y z (selK L hang (k + 1)) = pick x y z (selK L hang k) := pick_congr hS fun d _ => by rw [hsucc, hfh]; simp
        by_cases hz : 0 < (L.getD k []).length
        · simp (disch := omega) only [f1, f5, f6, f7, f8, f10, hrefs.cell, v3, ↓SXd, SXu, slBounds, ↓sop, ↓aop, ↓reduceIte, LV.cells, AOp.dst, LV.I, LV.B, LV.U, LV.S, LV.nil, Nat.reduceEqDiff, Nat.reduceAdd, Nat.reduceMul, Nat.reduceSub, Nat.reduceLeDiff, Nat.reduceBEq, Nat.reduceDiv, Nat.reduceMod, Int.reduceToNat, Int.reduceLT, Int.reduceLE, Int.reduceAdd, Int.reduceSub, Int.reduceMul, Int.reduceEq, Int.reduceNeg, reduceCtorEq, resV, resAll, ARes.ev, LV.flat, ite_true, ite_false, exists_eq_left', exists_eq_left, keyOf, implies_true, fillC, capOf]
          exact ⟨m - 1, by omega, k + 1, tO, by omega, hpre, by rw [hsame]; exact hob, by rw [hsame]; exact hor, htO, hrefs, hcss, f1, f5, f6, eqI (natI _)⟩
        · simp (disch := omega) only [f1, f5, f6, f7, f8, f10, hrefs.cell, v3, ↓SXd, SXu, slBounds, ↓sop, ↓aop, ↓reduceIte, LV.cells, AOp.dst, LV.I, LV.B, LV.U, LV.S, LV.nil, Nat.reduceEqDiff, Nat.reduceAdd, Nat.reduceMul, Nat.reduceSub, Nat.reduceLeDiff, Nat.reduceBEq, Nat.reduceDiv, Nat.reduceMod, Int.reduceToNat, Int.reduceLT, Int.reduceLE, Int.reduceAdd, Int.reduceSub, Int.reduceMul, Int.reduceEq, Int.reduceNeg, reduceCtorEq, resV, resAll, ARes.ev, LV.flat, ite_true, ite_false, exists_eq_left', exists_eq_left, keyOf, implies_true, fillC, capOf]
          exact ⟨m - 1, by omega, k + 1, tO, by omega, hpre, by rw [hsame]; exact hob, by rw [hsame]; exact hor, htO, hrefs, hcss, f1, f5, f6, eqI (natI _)⟩
      · refine ev_loop (fun m2 fr N' => ∃ (j tO : Nat), j + m2 = (L.getD k []).length ∧ Pre M N' ∧ Live N' (M.length + 1) (.row [.I x, .I y, .I z, .ref tO 0 (pick x y z fun d => selK L hang k d || decide (d ∈ (L.getD k []).take j)).length] true 0) ∧
          Live N' tO (.row (triL (pick x y z fun d => selK L hang k d || decide (d ∈ (L.getD k []).take j))) true 3) ∧ M.length ≤ tO ∧ Live N' u (.row refs true 1) ∧ Css N' (M.length + 2) nn refs L ∧
          fr 1 = .B hang ∧ fr 5 = .ref u 0 refs.length ∧ fr 6 = .ptr (M.length + 1) 0 ∧ fr 7 = .I k ∧ fr 8 = .B (floorOf (L.getD k [])) ∧ fr 10 = .I j) (L.getD k []).length
          ⟨0, tO, by omega, hpre, by simpa using hob, by simpa using hor, htO, hrefs, hcss, f1, f5, f6, f7, f8, rfl⟩ ?_
        have hnn' := hob.lt
        clear f1 f5 f6 f7 f8 f9 hpre hob hor htO hrefs hcss v3 v4
        rintro m2 fr N' ⟨j, tO, hj, hpre, hob, hor, htO, hrefs, hcss, f1, f5, f6, f7, f8, f10⟩
        obtain ⟨v, v1, v2, v3, v4⟩ := hcss.get hkl
        have hne : (floorOf (L.getD k []) == hang) = false := by simpa using hfh
        by_cases hz : j < (L.getD k []).length
        · have hlc := v4.tri0 hz
          have hic := hl1 _ (getD_mem' (d := default) hz)
          have hst : pick x y z (fun d => decide (d ∈ pick x y z fun d => selK L hang k d || decide (d ∈ (L.getD k []).take j)) || decide (d = (L.getD k []).getD j default)) = pick x y z fun d => selK L hang k d || decide (d ∈ (L.getD k []).take (j + 1)) := pick_congr hS fun d hd => by
            rw [← take_dec hz, ← Bool.or_assoc]
            congr 1
            rw [Bool.eq_iff_iff, decide_eq_true_iff, mem_pick hS]
            exact ⟨fun h => h.2, fun h => ⟨hd, h⟩⟩
          simp (disch := omega) only [f1, f5, f6, f7, f8, f10, hrefs.cell, v3, hne, hob.cells, hlc, Cell.row, ↓SXd, SXu, slBounds, ↓sop, ↓aop, ↓reduceIte, LV.cells, AOp.dst, LV.I, LV.B, LV.U, LV.S, LV.nil, Nat.reduceEqDiff, Nat.reduceAdd, Nat.reduceMul, Nat.reduceSub, Nat.reduceLeDiff, Nat.reduceBEq, Nat.reduceDiv, Nat.reduceMod, Int.reduceToNat, Int.reduceLT, Int.reduceLE, Int.reduceAdd, Int.reduceSub, Int.reduceMul, Int.reduceEq, Int.reduceNeg, reduceCtorEq, resV, resAll, ARes.ev, LV.flat, ite_true, ite_false, exists_eq_left', exists_eq_left, keyOf, implies_true, fillC, capOf]
          refine callH_of (h_l2With hor (hpo j) hic) ?_
          intro tO2 N2 htO2 hp2 hor2
          rw [hst] at hor2 ⊢
          simp (disch := omega) only [f1, f5, f6, f7, f8, f10, ↓SXd, SXu, slBounds, ↓sop, ↓aop, ↓reduceIte, LV.cells, AOp.dst, LV.I, LV.B, LV.U, LV.S, LV.nil, Nat.reduceEqDiff, Nat.reduceAdd, Nat.reduceMul, Nat.reduceSub, Nat.reduceLeDiff, Nat.reduceBEq, Nat.reduceDiv, Nat.reduceMod, Int.reduceToNat, Int.reduceLT, Int.reduceLE, Int.reduceAdd, Int.reduceSub, Int.reduceMul, Int.reduceEq, Int.reduceNeg, reduceCtorEq, resV, resAll, ARes.ev, LV.flat, ite_true, ite_false, exists_eq_left', exists_eq_left, keyOf, implies_true, fillC, capOf]
          refine memK_box (hob.pre hp2) (by simp) fun N3 k1 k2 k3 => ?_
          have hl1 := hob.lt
          have hp21 := hp2.1
          simp (disch := omega) only [f1, f5, f6, f7, f8, f10, ↓SXd, SXu, slBounds, ↓sop, ↓aop, ↓reduceIte, LV.cells, AOp.dst, LV.I, LV.B, LV.U, LV.S, LV.nil, Nat.reduceEqDiff, Nat.reduceAdd, Nat.reduceMul, Nat.reduceSub, Nat.reduceLeDiff, Nat.reduceBEq, Nat.reduceDiv, Nat.reduceMod, Int.reduceToNat, Int.reduceLT, Int.reduceLE, Int.reduceAdd, Int.reduceSub, Int.reduceMul, Int.reduceEq, Int.reduceNeg, reduceCtorEq, resV, resAll, ARes.ev, LV.flat, ite_true, ite_false, exists_eq_left', exists_eq_left, keyOf, implies_true, fillC, capOf]
          exact ⟨m2 - 1, by omega, j + 1, tO2, by omega, pre_step (hpre.trans hp2) (by omega) (j := 0) k1 k3, k2, live_step hor2 (by omega) k3, by have := hpre.1; omega, live_step (hrefs.pre hp2) (hrefs.ne_esz hob (by decide)) k3, (hcss.pre hp2).keep (.inl (.inr (by omega))) k3, f1, f5, f6, f7, f8, eqI (natI _)⟩
        · have hje : j = (L.getD k []).length := by omega
          subst hje
          have hsame : pick x y z (fun d => selK L hang k d || decide (d ∈ (L.getD k []).take (L.getD k []).length)) = pick x y z (selK L hang (k + 1)) := pick_congr hS fun d _ => by
            rw [hsucc, List.take_length]
            have : (floorOf (L.getD k []) != hang) = true := by simpa using hfh
            rw [this, Bool.true_and]
          rw [hsame] at hob hor
          simp (disch := omega) only [f1, f5, f6, f7, f8, f10, hrefs.cell, v3, ↓SXd, SXu, slBounds, ↓sop, ↓aop, ↓reduceIte, LV.cells, AOp.dst, LV.I, LV.B, LV.U, LV.S, LV.nil, Nat.reduceEqDiff, Nat.reduceAdd, Nat.reduceMul, Nat.reduceSub, Nat.reduceLeDiff, Nat.reduceBEq, Nat.reduceDiv, Nat.reduceMod, Int.reduceToNat, Int.reduceLT, Int.reduceLE, Int.reduceAdd, Int.reduceSub, Int.reduceMul, Int.reduceEq, Int.reduceNeg, reduceCtorEq, resV, resAll, ARes.ev, LV.flat, ite_true, ite_false, exists_eq_left', exists_eq_left, keyOf, implies_true, fillC, capOf]
          exact ⟨m - 1, by omega, k + 1, tO, by omega, hpre, hob, hor, htO, hrefs, hcss, f1, f5, f6, eqI (natI _)⟩
end Go.Ab

/- The abstract code of some functions (written by a program of mine from the translation, by way of prepF). -/
namespace Go.Ab.C
open Go.Ab
def impl_box_near : AFn :=
 ⟨2, 36, [.tmp 4],
 .seq (.ops [(none, .box 2 (.t 0)),
 (none, .box 3 (.t 1)),
 (none, .mv 4 (.c (.U 0)))])
 (.seq (.ops [(none, .mv 5 (.c (.U 0)))])
 (.seq (.seq (.ops [(none, .mv 10 (.c (.I 0)))])
 (.block 0 (.loop (.seq (.ops [(none, .bin 11 .lss (.t 10) (.c (.I 3)))])
 (.seq (.cond (.t 11) (.skip)
 (.exit 0))
 (.seq (.block 1 (.seq (.ops [(none, .mv 12 (.t 10)),
 (none, .mv 6 (.t 12))])
 (.seq (.ops [(none, .build 13 [(.I 0), (.I 0)] [(0, 1, (.c (.I (-1)))), (1, 1, (.c (.I 1)))]),
 (none, .mv 14 (.c (.I 0)))])
 (.block 2 (.loop (.seq (.ops [(none, .bin 15 .lss (.t 14) (.c (.I 2)))])
 (.seq (.cond (.t 15) (.skip)
 (.exit 2))
 (.seq (.block 3 (.seq (.ops [(none, .index 16 2 1 false (.t 13) (.t 14)),
 (none, .mv 8 (.t 16))])
 (.seq (.ops [(none, .loadN 17 3 (.t 3)),
 (none, .alloc 9 [(.I 0), (.I 0), (.I 0)]),
 (none, .store 3 (.t 9) (.t 17))])
 (.seq (.ops [(none, .mv 18 (.t 6)),
 (none, .idxA 19 3 1 (.t 9) (.t 18)),
 (none, .load1 20 (.t 19)),
 (none, .mv 21 (.t 8)),
 (none, .bin 22 .add (.t 20) (.t 21)),
 (none, .idxA 23 3 1 (.t 9) (.t 18)),
 (none, .store 1 (.t 23) (.t 22))])
 (.seq (.ops [(none, .loadN 24 3 (.t 2)),
 (none, .loadN 25 3 (.t 9)),
 (none, .call (some 26) F.impl_box_has [(.t 24), (.t 25)])])
 (.cond (.t 26) (.ops [(none, .mv 27 (.t 5)),
 (none, .loadN 28 3 (.t 2)),
 (none, .loadN 29 3 (.t 9)),
 (none, .call (some 30) F.impl_box_index [(.t 28), (.t 29)]),
 (none, .bin 31 .shl (.c (.U 1)) (.t 30)),
 (none, .bin 32 .or (.t 27) (.t 31)),
 (none, .mv 5 (.t 32))])
 (.skip)))))))
 (.ops [(none, .bin 33 .add (.t 14) (.c (.I 1))),
 (none, .mv 14 (.t 33))])))))))))
 (.ops [(none, .bin 34 .add (.t 10) (.c (.I 1))),
 (none, .mv 10 (.t 34))])))))))
 (.seq (.ops [(none, .mv 35 (.t 5)),
 (none, .mv 4 (.t 35))])
 (.ret))))⟩
def impl_box_grown : AFn :=
 ⟨3, 33, [.tmp 6],
 .seq (.ops [(none, .box 3 (.t 0)),
 (none, .mv 6 (.c (.U 0)))])
 (.block 0 (.loop (.block 1 (.seq (.ops [(none, .mv 9 (.t 1)),
 (none, .mv 7 (.t 9))])
 (.seq (.seq (.ops [(none, .loadN 10 3 (.t 3)),
 (none, .call (some 11) F.impl_box_size [(.t 10)]),
 (none, .mv 12 (.c (.I 0)))])
 (.block 2 (.loop (.seq (.ops [(none, .bin 13 .lss (.t 12) (.t 11))])
 (.seq (.cond (.t 13) (.skip)
 (.exit 2))
 (.seq (.block 3 (.seq (.ops [(none, .mv 14 (.t 12)),
 (none, .mv 8 (.t 14))])
 (.seq (.ops [(none, .mv 15 (.t 1)),
 (none, .mv 16 (.t 8)),
 (none, .call (some 17) F.impl_set_has [(.t 15), (.t 16)])])
 (.cond (.t 17) (.draw [⟨(none, .mv 18 (.t 7)), [], []⟩,
 ⟨(none, .loadN 19 3 (.t 3)), [], []⟩,
 ⟨(none, .loadN 20 3 (.t 3)), [], []⟩,
 ⟨(none, .mv 21 (.t 8)), [], []⟩,
 ⟨(none, .mv 24 (.t 2)), [], []⟩,
 ⟨(none, .call (some 22) F.impl_box_cell [(.t 20), (.t 21)]), [], [0, 1, 4]⟩,
 ⟨(none, .call (some 23) F.impl_box_near [(.t 19), (.t 22)]), [], [0, 4]⟩,
 ⟨(none, .bin 25 .and (.t 23) (.t 24)), [], []⟩,
 ⟨(none, .bin 26 .or (.t 18) (.t 25)), [], []⟩,
 ⟨(none, .mv 7 (.t 26)), [], []⟩])
 (.skip)))))
 (.ops [(none, .bin 27 .add (.t 12) (.c (.I 1))),
 (none, .mv 12 (.t 27))])))))))
 (.seq (.seq (.ops [(none, .mv 28 (.t 7)),
 (none, .mv 29 (.t 1)),
 (none, .bin 30 .eql (.t 28) (.t 29))])
 (.cond (.t 30) (.seq (.ops [(none, .mv 31 (.t 1)),
 (none, .mv 6 (.t 31))])
 (.ret))
 (.skip)))
 (.ops [(none, .mv 32 (.t 7)),
 (none, .mv 1 (.t 32))])))))))⟩
end Go.Ab.C

/- That the program has this code. -/
namespace Go.Ab.K
open Go Go.Ab
theorem impl_box_near : prepF Go.Proofs.Try.prog F.impl_box_near = some C.impl_box_near := by kernel_rfl
theorem impl_box_grown : prepF Go.Proofs.Try.prog F.impl_box_grown = some C.impl_box_grown := by kernel_rfl
end Go.Ab.K

/- Contracts: neighbours; what grows. -/
namespace Go.Ab
open Go
set_option linter.unusedSimpArgs false
set_option linter.unusedVariables false

/-- The first k neighbours of a cell. -/
def nbrK (c : Cell) (k : Nat) (e : Cell) : Bool := decide (e ∈ (nbrs c).take k)
theorem nbrK_step {c : Cell} {k : Nat} (hk : k < 6) (e : Cell) : nbrK c (k + 1) e = (nbrK c k e || decide (e = (nbrs c).getD k default)) := (take_dec (cs := nbrs c) (by simpa [nbrs] using hk)).symm

section
variable {x y z : Int} (hS : Sides x y z)
include hS
theorem g_nearSet {c : Cell} {M : Mem} (hc : c.inBox x y z) : CallsTo PG F.impl_box_near [.agg [.I x, .I y, .I z], .agg [.I c.a, .I c.b, .I c.c]] M (.W (bs x y z fun d => decide (apart c d = 1))) M := by
  obtain ⟨h1, h2, h3⟩ := id hc
  obtain ⟨hx, hy, hz⟩ := id hS
  refine calls_run K.impl_box_near rfl ?_
  simp (disch := omega) only [C.impl_box_near, ↓SXd, SXu, slBounds, ↓sop, ↓aop, ↓reduceIte, LV.cells, AOp.dst, LV.I, LV.B, LV.U, LV.S, LV.nil, Nat.reduceEqDiff, Nat.reduceAdd, Nat.reduceMul, Nat.reduceSub, Nat.reduceLeDiff, Nat.reduceBEq, Nat.reduceDiv, Nat.reduceMod, Int.reduceToNat, Int.reduceLT, Int.reduceLE, Int.reduceAdd, Int.reduceSub, Int.reduceMul, Int.reduceEq, Int.reduceNeg, reduceCtorEq, resV, resAll, ARes.ev, LV.flat, ite_true, ite_false, exists_eq_left', exists_eq_left, keyOf, implies_true, fillC, capOf]
  refine ev_loop (fun m fr M' => ∃ d : Nat, d + m = 3 ∧ Pre M M' ∧ Live M' M.length (.row [.I x, .I y, .I z] true 0) ∧ Live M' (M.length + 1) (.row [.I c.a, .I c.b, .I c.c] true 0) ∧
    fr 2 = .ptr M.length 0 ∧ fr 3 = .ptr (M.length + 1) 0 ∧ fr 5 = .W (bs x y z (nbrK c (2 * d))) ∧ fr 10 = .I d) 3
    ⟨0, rfl, Pre.app _ _, Live.new, Live.newj rfl, rfl, rfl, by rw [show bs x y z (nbrK c (2 * 0)) = 0#64 from (bs_zero hS).2 fun e _ => decide_eq_false (by simp)]; rfl, rfl⟩ ?_
  rintro m fr M' ⟨d, hd, hpre, hbox, hcell, f2, f3, f5, f10⟩
  simp (disch := omega) only [f2, f3, f5, f10, ↓SXd, SXu, slBounds, ↓sop, ↓aop, ↓reduceIte, LV.cells, AOp.dst, LV.I, LV.B, LV.U, LV.S, LV.nil, Nat.reduceEqDiff, Nat.reduceAdd, Nat.reduceMul, Nat.reduceSub, Nat.reduceLeDiff, Nat.reduceBEq, Nat.reduceDiv, Nat.reduceMod, Int.reduceToNat, Int.reduceLT, Int.reduceLE, Int.reduceAdd, Int.reduceSub, Int.reduceMul, Int.reduceEq, Int.reduceNeg, reduceCtorEq, resV, resAll, ARes.ev, LV.flat, ite_true, ite_false, exists_eq_left', exists_eq_left, keyOf, implies_true, fillC, capOf]
  refine condC_dec (fun hlt => ?_) (fun hlt => ?_)
  rotate_left
  · simp (disch := omega) only [f2, f3, f5, f10, ↓SXd, SXu, slBounds, ↓sop, ↓aop, ↓reduceIte, LV.cells, AOp.dst, LV.I, LV.B, LV.U, LV.S, LV.nil, Nat.reduceEqDiff, Nat.reduceAdd, Nat.reduceMul, Nat.reduceSub, Nat.reduceLeDiff, Nat.reduceBEq, Nat.reduceDiv, Nat.reduceMod, Int.reduceToNat, Int.reduceLT, Int.reduceLE, Int.reduceAdd, Int.reduceSub, Int.reduceMul, Int.reduceEq, Int.reduceNeg, reduceCtorEq, resV, resAll, ARes.ev, LV.flat, ite_true, ite_false, exists_eq_left', exists_eq_left, keyOf, implies_true, fillC, capOf]
    have : d = 3 := by omega
    subst this
    rw [show bs x y z (nbrK c (2 * 3)) = bs x y z fun d => decide (apart c d = 1) from (bs_eq hS).2 fun e _ => decide_eq_decide.2 (mem_nbrs (c := c) (d := e))]
    exact cmp_pre hpre rfl
  · simp (disch := omega) only [f2, f3, f5, f10, splice, ↓SXd, SXu, slBounds, ↓sop, ↓aop, ↓reduceIte, LV.cells, AOp.dst, LV.I, LV.B, LV.U, LV.S, LV.nil, Nat.reduceEqDiff, Nat.reduceAdd, Nat.reduceMul, Nat.reduceSub, Nat.reduceLeDiff, Nat.reduceBEq, Nat.reduceDiv, Nat.reduceMod, Int.reduceToNat, Int.reduceLT, Int.reduceLE, Int.reduceAdd, Int.reduceSub, Int.reduceMul, Int.reduceEq, Int.reduceNeg, reduceCtorEq, resV, resAll, ARes.ev, LV.flat, ite_true, ite_false, exists_eq_left', exists_eq_left, keyOf, implies_true, fillC, capOf]
    refine ev_loop (fun m2 fr N => ∃ j : Nat, j + m2 = 2 ∧ Pre M N ∧ Live N M.length (.row [.I x, .I y, .I z] true 0) ∧ Live N (M.length + 1) (.row [.I c.a, .I c.b, .I c.c] true 0) ∧
      fr 2 = .ptr M.length 0 ∧ fr 3 = .ptr (M.length + 1) 0 ∧ fr 5 = .W (bs x y z (nbrK c (2 * d + j))) ∧ fr 10 = .I d ∧ fr 6 = .I d ∧ fr 13 = .agg [.I (-1), .I 1] ∧ fr 14 = .I j) 2
      ⟨0, rfl, hpre, hbox, hcell, f2, f3, f5, f10, rfl, rfl, rfl⟩ ?_
    clear f2 f3 f5 f10 hpre hbox hcell
    rintro m2 fr N ⟨j, hj, hpre, hbox, hcell, f2, f3, f5, f10, f6, f13, f14⟩
    simp (disch := omega) only [f2, f3, f5, f10, f6, f13, f14, ↓SXd, SXu, slBounds, ↓sop, ↓aop, ↓reduceIte, LV.cells, AOp.dst, LV.I, LV.B, LV.U, LV.S, LV.nil, Nat.reduceEqDiff, Nat.reduceAdd, Nat.reduceMul, Nat.reduceSub, Nat.reduceLeDiff, Nat.reduceBEq, Nat.reduceDiv, Nat.reduceMod, Int.reduceToNat, Int.reduceLT, Int.reduceLE, Int.reduceAdd, Int.reduceSub, Int.reduceMul, Int.reduceEq, Int.reduceNeg, reduceCtorEq, resV, resAll, ARes.ev, LV.flat, ite_true, ite_false, exists_eq_left', exists_eq_left, keyOf, implies_true, fillC, capOf]
    refine condC_dec (fun hlt2 => ?_) (fun hlt2 => ?_)
    rotate_left
    · simp (disch := omega) only [f2, f3, f5, f10, f6, f13, f14, ↓SXd, SXu, slBounds, ↓sop, ↓aop, ↓reduceIte, LV.cells, AOp.dst, LV.I, LV.B, LV.U, LV.S, LV.nil, Nat.reduceEqDiff, Nat.reduceAdd, Nat.reduceMul, Nat.reduceSub, Nat.reduceLeDiff, Nat.reduceBEq, Nat.reduceDiv, Nat.reduceMod, Int.reduceToNat, Int.reduceLT, Int.reduceLE, Int.reduceAdd, Int.reduceSub, Int.reduceMul, Int.reduceEq, Int.reduceNeg, reduceCtorEq, resV, resAll, ARes.ev, LV.flat, ite_true, ite_false, exists_eq_left', exists_eq_left, keyOf, implies_true, fillC, capOf]
      have : j = 2 := by omega
      subst this
      exact ⟨m - 1, by omega, d + 1, by omega, hpre, hbox, hcell, f2, f3, f5, eqI (natI _)⟩
    · have hd3 : d = 0 ∨ d = 1 ∨ d = 2 := by omega
      have hj2 : j = 0 ∨ j = 1 := by omega
      have hlM := hcell.lt
      have key : ∀ e : Cell, (nbrs c).getD (2 * d + j) default = e → (e.inBox x y z → bs x y z (nbrK c (2 * d + j)) ||| 1#64 <<< (idx y z e).toNat = bs x y z (nbrK c (2 * d + (j + 1)))) ∧ (¬ e.inBox x y z → bs x y z (nbrK c (2 * d + j)) = bs x y z (nbrK c (2 * d + (j + 1)))) := by
        intro e he
        refine ⟨fun hin => ?_, fun hin => ?_⟩
        · rw [bs_one hS hin, bs_or hS]
          exact (bs_eq hS).2 fun f _ => by rw [show 2 * d + (j + 1) = 2 * d + j + 1 by omega, nbrK_step (by omega), he]
        · refine (bs_eq hS).2 fun f hf => ?_
          rw [show 2 * d + (j + 1) = 2 * d + j + 1 by omega, nbrK_step (by omega), he, decide_eq_false (fun h => hin (by rw [← h]; exact hf)), Bool.or_false]
      rcases hd3 with rfl | rfl | rfl <;> rcases hj2 with rfl | rfl
      all_goals
        simp only [Int.natCast_zero, Int.natCast_one, show (((2 : Nat)) : Int) = 2 from rfl] at f6 f10 f14
        obtain ⟨k1, k2⟩ := key _ rfl
        simp only [nbrs, List.getD_cons_zero, List.getD_cons_succ, Nat.reduceMul, Nat.reduceAdd] at k1 k2
        simp (disch := omega) only [f2, f3, f5, f10, f6, f13, f14, hcell.cells, hbox.cells, splice, hbox.app.cells, ↓SXd, SXu, slBounds, ↓sop, ↓aop, ↓reduceIte, LV.cells, AOp.dst, LV.I, LV.B, LV.U, LV.S, LV.nil, Nat.reduceEqDiff, Nat.reduceAdd, Nat.reduceMul, Nat.reduceSub, Nat.reduceLeDiff, Nat.reduceBEq, Nat.reduceDiv, Nat.reduceMod, Int.reduceToNat, Int.reduceLT, Int.reduceLE, Int.reduceAdd, Int.reduceSub, Int.reduceMul, Int.reduceEq, Int.reduceNeg, reduceCtorEq, resV, resAll, ARes.ev, LV.flat, ite_true, ite_false, exists_eq_left', exists_eq_left, keyOf, implies_true, fillC, capOf]
        refine callK_of (g_has hS) ?_
        simp (disch := omega) only [f2, f3, f5, f10, f6, f13, f14, hbox.app.cells, ↓SXd, SXu, slBounds, ↓sop, ↓aop, ↓reduceIte, LV.cells, AOp.dst, LV.I, LV.B, LV.U, LV.S, LV.nil, Nat.reduceEqDiff, Nat.reduceAdd, Nat.reduceMul, Nat.reduceSub, Nat.reduceLeDiff, Nat.reduceBEq, Nat.reduceDiv, Nat.reduceMod, Int.reduceToNat, Int.reduceLT, Int.reduceLE, Int.reduceAdd, Int.reduceSub, Int.reduceMul, Int.reduceEq, Int.reduceNeg, reduceCtorEq, resV, resAll, ARes.ev, LV.flat, ite_true, ite_false, exists_eq_left', exists_eq_left, keyOf, implies_true, fillC, capOf]
        refine condC_dec (fun hin => ?_) (fun hin => ?_)
        · have hix := (idx_in hS hin).1
          simp (disch := omega) only [f2, f3, f5, f10, f6, f13, f14, hbox.app.cells, ↓SXd, SXu, slBounds, ↓sop, ↓aop, ↓reduceIte, LV.cells, AOp.dst, LV.I, LV.B, LV.U, LV.S, LV.nil, Nat.reduceEqDiff, Nat.reduceAdd, Nat.reduceMul, Nat.reduceSub, Nat.reduceLeDiff, Nat.reduceBEq, Nat.reduceDiv, Nat.reduceMod, Int.reduceToNat, Int.reduceLT, Int.reduceLE, Int.reduceAdd, Int.reduceSub, Int.reduceMul, Int.reduceEq, Int.reduceNeg, reduceCtorEq, resV, resAll, ARes.ev, LV.flat, ite_true, ite_false, exists_eq_left', exists_eq_left, keyOf, implies_true, fillC, capOf]
          refine callK_of (g_index hS hin) ?_
          simp (disch := omega) only [f2, f3, f5, f10, f6, f13, f14, ↓SXd, SXu, slBounds, ↓sop, ↓aop, ↓reduceIte, LV.cells, AOp.dst, LV.I, LV.B, LV.U, LV.S, LV.nil, Nat.reduceEqDiff, Nat.reduceAdd, Nat.reduceMul, Nat.reduceSub, Nat.reduceLeDiff, Nat.reduceBEq, Nat.reduceDiv, Nat.reduceMod, Int.reduceToNat, Int.reduceLT, Int.reduceLE, Int.reduceAdd, Int.reduceSub, Int.reduceMul, Int.reduceEq, Int.reduceNeg, reduceCtorEq, resV, resAll, ARes.ev, LV.flat, ite_true, ite_false, exists_eq_left', exists_eq_left, keyOf, implies_true, fillC, capOf]
          rw [k1 hin]
          first
          | exact ⟨m2 - 1, by omega, 1, by omega, hpre.app', hbox.app, hcell.app, f2, f3, rfl, f10, f6, f13, rfl⟩
          | exact ⟨m2 - 1, by omega, 2, by omega, hpre.app', hbox.app, hcell.app, f2, f3, rfl, f10, f6, f13, rfl⟩
        · simp (disch := omega) only [f2, f3, f5, f10, f6, f13, f14, ↓SXd, SXu, slBounds, ↓sop, ↓aop, ↓reduceIte, LV.cells, AOp.dst, LV.I, LV.B, LV.U, LV.S, LV.nil, Nat.reduceEqDiff, Nat.reduceAdd, Nat.reduceMul, Nat.reduceSub, Nat.reduceLeDiff, Nat.reduceBEq, Nat.reduceDiv, Nat.reduceMod, Int.reduceToNat, Int.reduceLT, Int.reduceLE, Int.reduceAdd, Int.reduceSub, Int.reduceMul, Int.reduceEq, Int.reduceNeg, reduceCtorEq, resV, resAll, ARes.ev, LV.flat, ite_true, ite_false, exists_eq_left', exists_eq_left, keyOf, implies_true, fillC, capOf]
          rw [k2 hin] at f5
          first
          | exact ⟨m2 - 1, by omega, 1, by omega, hpre.app', hbox.app, hcell.app, f2, f3, f5, f10, f6, f13, rfl⟩
          | exact ⟨m2 - 1, by omega, 2, by omega, hpre.app', hbox.app, hcell.app, f2, f3, f5, f10, f6, f13, rfl⟩

theorem g_grown {p q : Cell → Bool} {M : Mem} : CallsTo PG F.impl_box_grown [.agg [.I x, .I y, .I z], .W (bs x y z p), .W (bs x y z q)] M (.W (bs x y z (reach x y z p q))) M := by
  have hv := vol_cast hS
  refine calls_run K.impl_box_grown rfl ?_
  simp (disch := omega) only [C.impl_box_grown, ↓SXd, SXu, slBounds, ↓sop, ↓aop, ↓reduceIte, LV.cells, AOp.dst, LV.I, LV.B, LV.U, LV.S, LV.nil, Nat.reduceEqDiff, Nat.reduceAdd, Nat.reduceMul, Nat.reduceSub, Nat.reduceLeDiff, Nat.reduceBEq, Nat.reduceDiv, Nat.reduceMod, Int.reduceToNat, Int.reduceLT, Int.reduceLE, Int.reduceAdd, Int.reduceSub, Int.reduceMul, Int.reduceEq, Int.reduceNeg, reduceCtorEq, resV, resAll, ARes.ev, LV.flat, ite_true, ite_false, exists_eq_left', exists_eq_left, keyOf, implies_true, fillC, capOf]
  refine ev_loop (fun m fr M' => ∃ r : Cell → Bool, rest x y z r = m ∧ (∀ c, c.inBox x y z → p c = true → r c = true) ∧ (∀ c, c.inBox x y z → r c = true → Reach x y z p q c) ∧ Pre M M' ∧ Live M' M.length (.row [.I x, .I y, .I z] true 0) ∧
    fr 1 = .W (bs x y z r) ∧ fr 2 = .W (bs x y z q) ∧ fr 3 = .ptr M.length 0) (rest x y z p)
    ⟨p, rfl, fun _ _ h => h, fun _ h1 h2 => .base h1 h2, Pre.app _ _, Live.new, rfl, rfl, rfl⟩ ?_
  rintro m fr M' ⟨r, hm, hr0, hr1, hpre, hbox, f1, f2, f3⟩
  simp (disch := omega) only [f1, f2, f3, hbox.cells, ↓SXd, SXu, slBounds, ↓sop, ↓aop, ↓reduceIte, LV.cells, AOp.dst, LV.I, LV.B, LV.U, LV.S, LV.nil, Nat.reduceEqDiff, Nat.reduceAdd, Nat.reduceMul, Nat.reduceSub, Nat.reduceLeDiff, Nat.reduceBEq, Nat.reduceDiv, Nat.reduceMod, Int.reduceToNat, Int.reduceLT, Int.reduceLE, Int.reduceAdd, Int.reduceSub, Int.reduceMul, Int.reduceEq, Int.reduceNeg, reduceCtorEq, resV, resAll, ARes.ev, LV.flat, ite_true, ite_false, exists_eq_left', exists_eq_left, keyOf, implies_true, fillC, capOf]
  refine callK_of (g_size hS) ?_
  simp (disch := omega) only [f1, f2, f3, ↓SXd, SXu, slBounds, ↓sop, ↓aop, ↓reduceIte, LV.cells, AOp.dst, LV.I, LV.B, LV.U, LV.S, LV.nil, Nat.reduceEqDiff, Nat.reduceAdd, Nat.reduceMul, Nat.reduceSub, Nat.reduceLeDiff, Nat.reduceBEq, Nat.reduceDiv, Nat.reduceMod, Int.reduceToNat, Int.reduceLT, Int.reduceLE, Int.reduceAdd, Int.reduceSub, Int.reduceMul, Int.reduceEq, Int.reduceNeg, reduceCtorEq, resV, resAll, ARes.ev, LV.flat, ite_true, ite_false, exists_eq_left', exists_eq_left, keyOf, implies_true, fillC, capOf]
  refine ev_loop (fun m2 fr N => ∃ k : Nat, k + m2 = vol x y z ∧ N = M' ∧ fr 1 = .W (bs x y z r) ∧ fr 2 = .W (bs x y z q) ∧ fr 3 = .ptr M.length 0 ∧ fr 7 = .W (bs x y z (growK y z r q k)) ∧ fr 11 = .I ((vol x y z : Nat) : Int) ∧ fr 12 = .I k) (vol x y z)
    ⟨0, by omega, rfl, f1, f2, f3, by rw [growK_zero]; rfl, rfl, rfl⟩ ?_
  clear f1 f2 f3
  rintro m2 fr N ⟨k, hk, rfl, f1, f2, f3, f7, f11, f12⟩
  simp (disch := omega) only [f1, f2, f3, f7, f11, f12, ↓SXd, SXu, slBounds, ↓sop, ↓aop, ↓reduceIte, LV.cells, AOp.dst, LV.I, LV.B, LV.U, LV.S, LV.nil, Nat.reduceEqDiff, Nat.reduceAdd, Nat.reduceMul, Nat.reduceSub, Nat.reduceLeDiff, Nat.reduceBEq, Nat.reduceDiv, Nat.reduceMod, Int.reduceToNat, Int.reduceLT, Int.reduceLE, Int.reduceAdd, Int.reduceSub, Int.reduceMul, Int.reduceEq, Int.reduceNeg, reduceCtorEq, resV, resAll, ARes.ev, LV.flat, ite_true, ite_false, exists_eq_left', exists_eq_left, keyOf, implies_true, fillC, capOf]
  refine condC_dec (fun hlt => ?_) (fun hlt => ?_)
  · simp (disch := omega) only [f1, f2, f3, f7, f11, f12, ↓SXd, SXu, slBounds, ↓sop, ↓aop, ↓reduceIte, LV.cells, AOp.dst, LV.I, LV.B, LV.U, LV.S, LV.nil, Nat.reduceEqDiff, Nat.reduceAdd, Nat.reduceMul, Nat.reduceSub, Nat.reduceLeDiff, Nat.reduceBEq, Nat.reduceDiv, Nat.reduceMod, Int.reduceToNat, Int.reduceLT, Int.reduceLE, Int.reduceAdd, Int.reduceSub, Int.reduceMul, Int.reduceEq, Int.reduceNeg, reduceCtorEq, resV, resAll, ARes.ev, LV.flat, ite_true, ite_false, exists_eq_left', exists_eq_left, keyOf, implies_true, fillC, capOf]
    refine callK_of (g_has_set (by omega)) ?_
    simp (disch := omega) only [f1, f2, f3, f7, f11, f12, ↓SXd, SXu, slBounds, ↓sop, ↓aop, ↓reduceIte, LV.cells, AOp.dst, LV.I, LV.B, LV.U, LV.S, LV.nil, Nat.reduceEqDiff, Nat.reduceAdd, Nat.reduceMul, Nat.reduceSub, Nat.reduceLeDiff, Nat.reduceBEq, Nat.reduceDiv, Nat.reduceMod, Int.reduceToNat, Int.reduceLT, Int.reduceLE, Int.reduceAdd, Int.reduceSub, Int.reduceMul, Int.reduceEq, Int.reduceNeg, reduceCtorEq, resV, resAll, ARes.ev, LV.flat, ite_true, ite_false, exists_eq_left', exists_eq_left, keyOf, implies_true, fillC, capOf]
    have hbit := bs_bit hS r k
    rw [decide_eq_true (show k < vol x y z by omega), Bool.true_and] at hbit
    rw [hbit]
    by_cases hp : r (cellAt y z k) = true
    · simp (disch := omega) only [f1, f2, f3, f7, f11, f12, hp, hbox.cells, ↓SXd, SXu, slBounds, ↓sop, ↓aop, ↓reduceIte, LV.cells, AOp.dst, LV.I, LV.B, LV.U, LV.S, LV.nil, Nat.reduceEqDiff, Nat.reduceAdd, Nat.reduceMul, Nat.reduceSub, Nat.reduceLeDiff, Nat.reduceBEq, Nat.reduceDiv, Nat.reduceMod, Int.reduceToNat, Int.reduceLT, Int.reduceLE, Int.reduceAdd, Int.reduceSub, Int.reduceMul, Int.reduceEq, Int.reduceNeg, reduceCtorEq, resV, resAll, ARes.ev, LV.flat, ite_true, ite_false, exists_eq_left', exists_eq_left, keyOf, implies_true, fillC, capOf]
      refine callK_of (g_cell hS (by omega) (by omega)) ?_
      simp (disch := omega) only [f1, f2, f3, f7, f11, f12, ↓SXd, SXu, slBounds, ↓sop, ↓aop, ↓reduceIte, LV.cells, AOp.dst, LV.I, LV.B, LV.U, LV.S, LV.nil, Nat.reduceEqDiff, Nat.reduceAdd, Nat.reduceMul, Nat.reduceSub, Nat.reduceLeDiff, Nat.reduceBEq, Nat.reduceDiv, Nat.reduceMod, Int.reduceToNat, Int.reduceLT, Int.reduceLE, Int.reduceAdd, Int.reduceSub, Int.reduceMul, Int.reduceEq, Int.reduceNeg, reduceCtorEq, resV, resAll, ARes.ev, LV.flat, ite_true, ite_false, exists_eq_left', exists_eq_left, keyOf, implies_true, fillC, capOf]
      refine callK_of (g_nearSet hS (c := cellAt y z k) (cellAt_in hS (by omega) (by omega)).1) ?_
      simp (disch := omega) only [f1, f2, f3, f7, f11, f12, ↓SXd, SXu, slBounds, ↓sop, ↓aop, ↓reduceIte, LV.cells, AOp.dst, LV.I, LV.B, LV.U, LV.S, LV.nil, Nat.reduceEqDiff, Nat.reduceAdd, Nat.reduceMul, Nat.reduceSub, Nat.reduceLeDiff, Nat.reduceBEq, Nat.reduceDiv, Nat.reduceMod, Int.reduceToNat, Int.reduceLT, Int.reduceLE, Int.reduceAdd, Int.reduceSub, Int.reduceMul, Int.reduceEq, Int.reduceNeg, reduceCtorEq, resV, resAll, ARes.ev, LV.flat, ite_true, ite_false, exists_eq_left', exists_eq_left, keyOf, implies_true, fillC, capOf]
      rw [bs_and hS, bs_or hS]
      exact ⟨m2 - 1, by omega, k + 1, by omega, rfl, f1, f2, f3, by rw [show bs x y z (growK y z r q (k + 1)) = _ from (bs_eq hS).2 fun c _ => growK_succ c]; simp only [hp, if_true]; rfl, f11, eqI (natI _)⟩
    · have hp' : r (cellAt y z k) = false := by simpa using hp
      simp (disch := omega) only [f1, f2, f3, f7, f11, f12, hp', ↓SXd, SXu, slBounds, ↓sop, ↓aop, ↓reduceIte, LV.cells, AOp.dst, LV.I, LV.B, LV.U, LV.S, LV.nil, Nat.reduceEqDiff, Nat.reduceAdd, Nat.reduceMul, Nat.reduceSub, Nat.reduceLeDiff, Nat.reduceBEq, Nat.reduceDiv, Nat.reduceMod, Int.reduceToNat, Int.reduceLT, Int.reduceLE, Int.reduceAdd, Int.reduceSub, Int.reduceMul, Int.reduceEq, Int.reduceNeg, reduceCtorEq, resV, resAll, ARes.ev, LV.flat, ite_true, ite_false, exists_eq_left', exists_eq_left, keyOf, implies_true, fillC, capOf]
      exact ⟨m2 - 1, by omega, k + 1, by omega, rfl, f1, f2, f3, by rw [show bs x y z (growK y z r q (k + 1)) = bs x y z (growK y z r q k) from (bs_eq hS).2 fun c _ => by rw [growK_succ c, hp', if_neg (by simp)]]; exact f7, f11, eqI (natI _)⟩
  · simp (disch := omega) only [f1, f2, f3, f7, f11, f12, ↓SXd, SXu, slBounds, ↓sop, ↓aop, ↓reduceIte, LV.cells, AOp.dst, LV.I, LV.B, LV.U, LV.S, LV.nil, Nat.reduceEqDiff, Nat.reduceAdd, Nat.reduceMul, Nat.reduceSub, Nat.reduceLeDiff, Nat.reduceBEq, Nat.reduceDiv, Nat.reduceMod, Int.reduceToNat, Int.reduceLT, Int.reduceLE, Int.reduceAdd, Int.reduceSub, Int.reduceMul, Int.reduceEq, Int.reduceNeg, reduceCtorEq, resV, resAll, ARes.ev, LV.flat, ite_true, ite_false, exists_eq_left', exists_eq_left, keyOf, implies_true, fillC, capOf]
    have : k = vol x y z := by omega
    subst this
    refine condC_dec (fun he => ?_) (fun he => ?_)
    · simp (disch := omega) only [f1, f2, f3, f7, f11, f12, ↓SXd, SXu, slBounds, ↓sop, ↓aop, ↓reduceIte, LV.cells, AOp.dst, LV.I, LV.B, LV.U, LV.S, LV.nil, Nat.reduceEqDiff, Nat.reduceAdd, Nat.reduceMul, Nat.reduceSub, Nat.reduceLeDiff, Nat.reduceBEq, Nat.reduceDiv, Nat.reduceMod, Int.reduceToNat, Int.reduceLT, Int.reduceLE, Int.reduceAdd, Int.reduceSub, Int.reduceMul, Int.reduceEq, Int.reduceNeg, reduceCtorEq, resV, resAll, ARes.ev, LV.flat, ite_true, ite_false, exists_eq_left', exists_eq_left, keyOf, implies_true, fillC, capOf]
      rw [show bs x y z (reach x y z p q) = bs x y z r from (bs_eq hS).2 fun c hc => (reach_of_fix hS hr0 hr1 ((bs_eq hS).1 he) c hc).symm]
      exact cmp_pre hpre rfl
    · simp (disch := omega) only [f1, f2, f3, f7, f11, f12, ↓SXd, SXu, slBounds, ↓sop, ↓aop, ↓reduceIte, LV.cells, AOp.dst, LV.I, LV.B, LV.U, LV.S, LV.nil, Nat.reduceEqDiff, Nat.reduceAdd, Nat.reduceMul, Nat.reduceSub, Nat.reduceLeDiff, Nat.reduceBEq, Nat.reduceDiv, Nat.reduceMod, Int.reduceToNat, Int.reduceLT, Int.reduceLE, Int.reduceAdd, Int.reduceSub, Int.reduceMul, Int.reduceEq, Int.reduceNeg, reduceCtorEq, resV, resAll, ARes.ev, LV.flat, ite_true, ite_false, exists_eq_left', exists_eq_left, keyOf, implies_true, fillC, capOf]
      refine ⟨rest x y z (growK y z r q (vol x y z)), ?_, growK y z r q (vol x y z), rfl, fun c hc h => (grow_iff hS).2 (.inl (hr0 c hc h)), fun c hc h => ?_, hpre, hbox, rfl, f2, f3⟩
      · rw [← hm]
        refine rest_lt hS (fun c hc h => (grow_iff hS).2 (.inl h)) ?_
        apply Classical.byContradiction
        intro hno
        apply he
        refine (bs_eq hS).2 fun c hc => ?_
        cases h1 : r c with
        | true => exact (grow_iff hS).2 (.inl h1)
        | false =>
          cases h2 : growK y z r q (vol x y z) c with
          | false => rfl
          | true => exact absurd ⟨c, hc, h1, h2⟩ hno
      · rcases (grow_iff hS).1 h with h | ⟨h1, d, h2, h3, h4⟩
        · exact hr1 c hc h
        · exact .step (hr1 d h2 h3) h4 hc h1
end
end Go.Ab

/- Contracts: what stands, both sides. -/
namespace Go.Ab
open Go
set_option linter.unusedSimpArgs false
set_option linter.unusedVariables false

/-- All of a set stands. -/
def Firm (x y z : Int) (p : Cell → Bool) : Prop := ∀ c, c.inBox x y z → p c = true → stand x y z p c = true
noncomputable instance (x y z : Int) (p : Cell → Bool) : Decidable (Firm x y z p) := Classical.propDecidable _
theorem stand_sub {x y z : Int} {p : Cell → Bool} {c : Cell} (h : stand x y z p c = true) : p c = true := by
  unfold stand at h
  rw [reach_iff] at h
  cases h with
  | base _ h2 => simp only [Bool.and_eq_true] at h2; exact h2.1
  | step _ _ _ h4 => exact h4
theorem stand_congr {x y z : Int} {p q : Cell → Bool} (h : ∀ c, c.inBox x y z → p c = q c) (c : Cell) : stand x y z p c = stand x y z q c := by
  rw [Bool.eq_iff_iff]
  unfold stand
  rw [reach_iff, reach_iff]
  constructor
  · exact fun hr => hr.mono (fun e he h1 => .base he (by simp only [Bool.and_eq_true] at h1 ⊢; rw [← h e he]; exact h1)) fun e he h1 => by rw [← h e he]; exact h1
  · exact fun hr => hr.mono (fun e he h1 => .base he (by simp only [Bool.and_eq_true] at h1 ⊢; rw [h e he]; exact h1)) fun e he h1 => by rw [h e he]; exact h1
theorem firm_congr {x y z : Int} {p q : Cell → Bool} (h : ∀ c, c.inBox x y z → p c = q c) : Firm x y z p ↔ Firm x y z q := by
  unfold Firm
  constructor
  · intro hf c hc hq; rw [← stand_congr h]; exact hf c hc (by rw [h c hc]; exact hq)
  · intro hf c hc hq; rw [stand_congr h]; exact hf c hc (by rw [← h c hc]; exact hq)

section
variable {x y z : Int} (hS : Sides x y z)
include hS
theorem firm_bs {p : Cell → Bool} : bs x y z (stand x y z p) = bs x y z p ↔ Firm x y z p := by
  rw [bs_eq hS]
  constructor
  · intro h c hc hp; rw [h c hc]; exact hp
  · intro h c hc
    rw [Bool.eq_iff_iff]
    exact ⟨stand_sub, h c hc⟩
theorem firm_hang {p : Cell → Bool} : (pick x y z (parted x y z p true)).length = 0 ↔ Firm x y z p := by
  rw [List.length_eq_zero_iff]
  unfold pick
  rw [List.filter_eq_nil_iff]
  constructor
  · intro h c hc hp
    have := h c ((mem_cellsOf hS).2 hc)
    unfold parted at this
    rw [hp, Bool.true_and] at this
    simpa using this
  · intro h c hc
    unfold parted
    cases hp : p c with
    | false => simp
    | true => rw [h c ((mem_cellsOf hS).1 hc) hp]; simp

theorem g_floor_1 {a b c : Int} {M : Mem} : CallsTo PG F.impl_box_floor_1 [.agg [.I a, .I b, .I c]] M (.B (decide (c = 0))) M := by
  refine calls_run K.impl_box_floor_1 rfl ?_
  simp (disch := omega) only [C.impl_box_floor_1, ↓SXd, SXu, slBounds, ↓sop, ↓aop, ↓reduceIte, LV.cells, AOp.dst, LV.I, LV.B, LV.U, LV.S, LV.nil, Nat.reduceEqDiff, Nat.reduceAdd, Nat.reduceMul, Nat.reduceSub, Nat.reduceLeDiff, Nat.reduceBEq, Nat.reduceDiv, Nat.reduceMod, Int.reduceToNat, Int.reduceLT, Int.reduceLE, Int.reduceAdd, Int.reduceSub, Int.reduceMul, Int.reduceEq, Int.reduceNeg, reduceCtorEq, resV, resAll, ARes.ev, LV.flat, ite_true, ite_false, exists_eq_left', exists_eq_left, keyOf, implies_true, fillC, capOf]
  exact cmp_drop rfl
theorem g_floor {M : Mem} : CallsTo PG F.impl_box_floor [.agg [.I x, .I y, .I z]] M (.W (bs x y z fun c => decide (c.c = 0))) M := by
  refine calls_run K.impl_box_floor rfl ?_
  simp (disch := omega) only [C.impl_box_floor, ↓SXd, SXu, slBounds, ↓sop, ↓aop, ↓reduceIte, LV.cells, AOp.dst, LV.I, LV.B, LV.U, LV.S, LV.nil, Nat.reduceEqDiff, Nat.reduceAdd, Nat.reduceMul, Nat.reduceSub, Nat.reduceLeDiff, Nat.reduceBEq, Nat.reduceDiv, Nat.reduceMod, Int.reduceToNat, Int.reduceLT, Int.reduceLE, Int.reduceAdd, Int.reduceSub, Int.reduceMul, Int.reduceEq, Int.reduceNeg, reduceCtorEq, resV, resAll, ARes.ev, LV.flat, ite_true, ite_false, exists_eq_left', exists_eq_left, keyOf, implies_true, fillC, capOf]
  refine callK_of (g_those hS (p := fun c => decide (c.c = 0)) (f := F.impl_box_floor_1) (caps := []) fun M' _ i _ => g_floor_1 hS) ?_
  simp (disch := omega) only [↓SXd, SXu, slBounds, ↓sop, ↓aop, ↓reduceIte, LV.cells, AOp.dst, LV.I, LV.B, LV.U, LV.S, LV.nil, Nat.reduceEqDiff, Nat.reduceAdd, Nat.reduceMul, Nat.reduceSub, Nat.reduceLeDiff, Nat.reduceBEq, Nat.reduceDiv, Nat.reduceMod, Int.reduceToNat, Int.reduceLT, Int.reduceLE, Int.reduceAdd, Int.reduceSub, Int.reduceMul, Int.reduceEq, Int.reduceNeg, reduceCtorEq, resV, resAll, ARes.ev, LV.flat, ite_true, ite_false, exists_eq_left', exists_eq_left, keyOf, implies_true, fillC, capOf]
  exact cmp_drop rfl
theorem g_standing {p : Cell → Bool} {M : Mem} : CallsTo PG F.impl_box_standing [.agg [.I x, .I y, .I z], .W (bs x y z p)] M (.W (bs x y z (stand x y z p))) M := by
  refine calls_run K.impl_box_standing rfl ?_
  simp (disch := omega) only [C.impl_box_standing, ↓SXd, SXu, slBounds, ↓sop, ↓aop, ↓reduceIte, LV.cells, AOp.dst, LV.I, LV.B, LV.U, LV.S, LV.nil, Nat.reduceEqDiff, Nat.reduceAdd, Nat.reduceMul, Nat.reduceSub, Nat.reduceLeDiff, Nat.reduceBEq, Nat.reduceDiv, Nat.reduceMod, Int.reduceToNat, Int.reduceLT, Int.reduceLE, Int.reduceAdd, Int.reduceSub, Int.reduceMul, Int.reduceEq, Int.reduceNeg, reduceCtorEq, resV, resAll, ARes.ev, LV.flat, ite_true, ite_false, exists_eq_left', exists_eq_left, keyOf, implies_true, fillC, capOf]
  refine callK_of (g_floor hS) ?_
  simp (disch := omega) only [↓SXd, SXu, slBounds, ↓sop, ↓aop, ↓reduceIte, LV.cells, AOp.dst, LV.I, LV.B, LV.U, LV.S, LV.nil, Nat.reduceEqDiff, Nat.reduceAdd, Nat.reduceMul, Nat.reduceSub, Nat.reduceLeDiff, Nat.reduceBEq, Nat.reduceDiv, Nat.reduceMod, Int.reduceToNat, Int.reduceLT, Int.reduceLE, Int.reduceAdd, Int.reduceSub, Int.reduceMul, Int.reduceEq, Int.reduceNeg, reduceCtorEq, resV, resAll, ARes.ev, LV.flat, ite_true, ite_false, exists_eq_left', exists_eq_left, keyOf, implies_true, fillC, capOf]
  rw [bs_and hS]
  refine callK_of (g_grown hS) ?_
  simp (disch := omega) only [↓SXd, SXu, slBounds, ↓sop, ↓aop, ↓reduceIte, LV.cells, AOp.dst, LV.I, LV.B, LV.U, LV.S, LV.nil, Nat.reduceEqDiff, Nat.reduceAdd, Nat.reduceMul, Nat.reduceSub, Nat.reduceLeDiff, Nat.reduceBEq, Nat.reduceDiv, Nat.reduceMod, Int.reduceToNat, Int.reduceLT, Int.reduceLE, Int.reduceAdd, Int.reduceSub, Int.reduceMul, Int.reduceEq, Int.reduceNeg, reduceCtorEq, resV, resAll, ARes.ev, LV.flat, ite_true, ite_false, exists_eq_left', exists_eq_left, keyOf, implies_true, fillC, capOf]
  exact cmp_drop rfl
theorem g_stands {p : Cell → Bool} {M : Mem} : CallsTo PG F.impl_box_stands [.agg [.I x, .I y, .I z], .W (bs x y z p)] M (.B (decide (Firm x y z p))) M := by
  refine calls_run K.impl_box_stands rfl ?_
  simp (disch := omega) only [C.impl_box_stands, ↓SXd, SXu, slBounds, ↓sop, ↓aop, ↓reduceIte, LV.cells, AOp.dst, LV.I, LV.B, LV.U, LV.S, LV.nil, Nat.reduceEqDiff, Nat.reduceAdd, Nat.reduceMul, Nat.reduceSub, Nat.reduceLeDiff, Nat.reduceBEq, Nat.reduceDiv, Nat.reduceMod, Int.reduceToNat, Int.reduceLT, Int.reduceLE, Int.reduceAdd, Int.reduceSub, Int.reduceMul, Int.reduceEq, Int.reduceNeg, reduceCtorEq, resV, resAll, ARes.ev, LV.flat, ite_true, ite_false, exists_eq_left', exists_eq_left, keyOf, implies_true, fillC, capOf]
  refine callK_of (g_standing hS) ?_
  simp (disch := omega) only [↓SXd, SXu, slBounds, ↓sop, ↓aop, ↓reduceIte, LV.cells, AOp.dst, LV.I, LV.B, LV.U, LV.S, LV.nil, Nat.reduceEqDiff, Nat.reduceAdd, Nat.reduceMul, Nat.reduceSub, Nat.reduceLeDiff, Nat.reduceBEq, Nat.reduceDiv, Nat.reduceMod, Int.reduceToNat, Int.reduceLT, Int.reduceLE, Int.reduceAdd, Int.reduceSub, Int.reduceMul, Int.reduceEq, Int.reduceNeg, reduceCtorEq, resV, resAll, ARes.ev, LV.flat, ite_true, ite_false, exists_eq_left', exists_eq_left, keyOf, implies_true, fillC, capOf]
  exact cmp_dropB (firm_bs hS)

/-- A cube can be taken. -/
noncomputable def canTake (x y z : Int) (p : Cell → Bool) (c : Cell) : Bool := p c && decide (Firm x y z fun d => p d && !decide (d = c))

theorem g_takeable_1 {p : Cell → Bool} {c : Cell} {b1 b2 : Nat} {M : Mem} (hc : c.inBox x y z) (h1 : getCells M b1 0 3 = some [.I x, .I y, .I z]) (h2 : getCell M b2 0 = some (.W (bs x y z p))) (hl1 : b1 < M.length) (hl2 : b2 < M.length) :
    CallsTo PG F.impl_box_takeable_1 [.agg [.I c.a, .I c.b, .I c.c], .ptr b1 0, .ptr b2 0] M (.B (canTake x y z p c)) M := by
  have hix := (idx_in hS hc).1
  refine calls_run K.impl_box_takeable_1 rfl ?_
  simp (disch := omega) only [C.impl_box_takeable_1, getCells_app, h1, getCell_app, h2, ↓SXd, SXu, slBounds, ↓sop, ↓aop, ↓reduceIte, LV.cells, AOp.dst, LV.I, LV.B, LV.U, LV.S, LV.nil, Nat.reduceEqDiff, Nat.reduceAdd, Nat.reduceMul, Nat.reduceSub, Nat.reduceLeDiff, Nat.reduceBEq, Nat.reduceDiv, Nat.reduceMod, Int.reduceToNat, Int.reduceLT, Int.reduceLE, Int.reduceAdd, Int.reduceSub, Int.reduceMul, Int.reduceEq, Int.reduceNeg, reduceCtorEq, resV, resAll, ARes.ev, LV.flat, ite_true, ite_false, exists_eq_left', exists_eq_left, keyOf, implies_true, fillC, capOf]
  refine callK_of (g_index hS hc) ?_
  simp (disch := omega) only [getCells_app, h1, getCell_app, h2, ↓SXd, SXu, slBounds, ↓sop, ↓aop, ↓reduceIte, LV.cells, AOp.dst, LV.I, LV.B, LV.U, LV.S, LV.nil, Nat.reduceEqDiff, Nat.reduceAdd, Nat.reduceMul, Nat.reduceSub, Nat.reduceLeDiff, Nat.reduceBEq, Nat.reduceDiv, Nat.reduceMod, Int.reduceToNat, Int.reduceLT, Int.reduceLE, Int.reduceAdd, Int.reduceSub, Int.reduceMul, Int.reduceEq, Int.reduceNeg, reduceCtorEq, resV, resAll, ARes.ev, LV.flat, ite_true, ite_false, exists_eq_left', exists_eq_left, keyOf, implies_true, fillC, capOf]
  rw [bs_one hS hc, bs_and hS]
  unfold canTake
  have hz : (bs x y z (fun d => p d && decide (d = c)) = 0#64) ↔ p c = false := by
    rw [bs_zero hS]
    constructor
    · intro h; have := h c hc; simpa using this
    · intro h d _
      by_cases e : d = c
      · subst e; simp [h]
      · simp [e]
  cases hp : p c with
  | false =>
    simp (disch := omega) only [hz.2, hp, ↓SXd, SXu, slBounds, ↓sop, ↓aop, ↓reduceIte, LV.cells, AOp.dst, LV.I, LV.B, LV.U, LV.S, LV.nil, Nat.reduceEqDiff, Nat.reduceAdd, Nat.reduceMul, Nat.reduceSub, Nat.reduceLeDiff, Nat.reduceBEq, Nat.reduceDiv, Nat.reduceMod, Int.reduceToNat, Int.reduceLT, Int.reduceLE, Int.reduceAdd, Int.reduceSub, Int.reduceMul, Int.reduceEq, Int.reduceNeg, reduceCtorEq, resV, resAll, ARes.ev, LV.flat, ite_true, ite_false, exists_eq_left', exists_eq_left, keyOf, implies_true, fillC, capOf]
    exact cmp_drop rfl
  | true =>
    have hz' : ¬ (bs x y z (fun d => p d && decide (d = c)) = 0#64) := fun e => by rw [hz.1 e] at hp; cases hp
    simp (disch := omega) only [hz', getCells_app, h1, getCell_app, h2, ↓SXd, SXu, slBounds, ↓sop, ↓aop, ↓reduceIte, LV.cells, AOp.dst, LV.I, LV.B, LV.U, LV.S, LV.nil, Nat.reduceEqDiff, Nat.reduceAdd, Nat.reduceMul, Nat.reduceSub, Nat.reduceLeDiff, Nat.reduceBEq, Nat.reduceDiv, Nat.reduceMod, Int.reduceToNat, Int.reduceLT, Int.reduceLE, Int.reduceAdd, Int.reduceSub, Int.reduceMul, Int.reduceEq, Int.reduceNeg, reduceCtorEq, resV, resAll, ARes.ev, LV.flat, ite_true, ite_false, exists_eq_left', exists_eq_left, keyOf, implies_true, fillC, capOf]
    rw [bs_diff hS]
    refine callK_of (g_stands hS) ?_
    simp (disch := omega) only [↓SXd, SXu, slBounds, ↓sop, ↓aop, ↓reduceIte, LV.cells, AOp.dst, LV.I, LV.B, LV.U, LV.S, LV.nil, Nat.reduceEqDiff, Nat.reduceAdd, Nat.reduceMul, Nat.reduceSub, Nat.reduceLeDiff, Nat.reduceBEq, Nat.reduceDiv, Nat.reduceMod, Int.reduceToNat, Int.reduceLT, Int.reduceLE, Int.reduceAdd, Int.reduceSub, Int.reduceMul, Int.reduceEq, Int.reduceNeg, reduceCtorEq, resV, resAll, ARes.ev, LV.flat, ite_true, ite_false, exists_eq_left', exists_eq_left, keyOf, implies_true, fillC, capOf]
    exact cmp_drop rfl
theorem g_takeable {p : Cell → Bool} {M : Mem} : CallsTo PG F.impl_box_takeable [.agg [.I x, .I y, .I z], .W (bs x y z p)] M (.W (bs x y z (canTake x y z p))) M := by
  have hv := vol_cast hS
  refine calls_run K.impl_box_takeable rfl ?_
  simp (disch := omega) only [C.impl_box_takeable, ↓SXd, SXu, slBounds, ↓sop, ↓aop, ↓reduceIte, LV.cells, AOp.dst, LV.I, LV.B, LV.U, LV.S, LV.nil, Nat.reduceEqDiff, Nat.reduceAdd, Nat.reduceMul, Nat.reduceSub, Nat.reduceLeDiff, Nat.reduceBEq, Nat.reduceDiv, Nat.reduceMod, Int.reduceToNat, Int.reduceLT, Int.reduceLE, Int.reduceAdd, Int.reduceSub, Int.reduceMul, Int.reduceEq, Int.reduceNeg, reduceCtorEq, resV, resAll, ARes.ev, LV.flat, ite_true, ite_false, exists_eq_left', exists_eq_left, keyOf, implies_true, fillC, capOf]
  refine callK_of (g_those hS (p := canTake x y z p) (f := F.impl_box_takeable_1) (caps := [(M.length, 0), (M.length + 1, 0)]) fun M' hp i hi => ?_) ?_
  · have l0 : Live M' M.length (.row [.I x, .I y, .I z] true 0) := Live.new.pre hp
    have l1 : Live M' (M.length + 1) (.row [.W (bs x y z p)] true 0) := (Live.newj (j := 1) rfl).pre hp
    exact g_takeable_1 hS (cellAt_in hS (by omega) (by omega)).1 (by rw [l0.cells]; rfl) (by rw [l1.cell]; rfl) l0.lt l1.lt
  · simp (disch := omega) only [↓SXd, SXu, slBounds, ↓sop, ↓aop, ↓reduceIte, LV.cells, AOp.dst, LV.I, LV.B, LV.U, LV.S, LV.nil, Nat.reduceEqDiff, Nat.reduceAdd, Nat.reduceMul, Nat.reduceSub, Nat.reduceLeDiff, Nat.reduceBEq, Nat.reduceDiv, Nat.reduceMod, Int.reduceToNat, Int.reduceLT, Int.reduceLE, Int.reduceAdd, Int.reduceSub, Int.reduceMul, Int.reduceEq, Int.reduceNeg, reduceCtorEq, resV, resAll, ARes.ev, LV.flat, ite_true, ite_false, exists_eq_left', exists_eq_left, keyOf, implies_true, fillC, capOf]
    exact cmp_drop rfl
end

theorem g_isStanding {x y z : Int} {t o : Nat} {cs : List Cell} {M : Mem} (h : Tri M t o cs) (hn : cs.length ≤ 1000000000) :
    CallsTo PG F.impl_isStanding [.agg [.I x, .I y, .I z, .ref t o cs.length]] M (.B (decide (HeapOK x y z cs ∧ Firm x y z fun c => decide (c ∈ cs)))) M := by
  refine calls_run K.impl_isStanding rfl ?_
  simp (disch := omega) only [C.impl_isStanding, ↓SXd, SXu, slBounds, ↓sop, ↓aop, ↓reduceIte, LV.cells, AOp.dst, LV.I, LV.B, LV.U, LV.S, LV.nil, Nat.reduceEqDiff, Nat.reduceAdd, Nat.reduceMul, Nat.reduceSub, Nat.reduceLeDiff, Nat.reduceBEq, Nat.reduceDiv, Nat.reduceMod, Int.reduceToNat, Int.reduceLT, Int.reduceLE, Int.reduceAdd, Int.reduceSub, Int.reduceMul, Int.reduceEq, Int.reduceNeg, reduceCtorEq, resV, resAll, ARes.ev, LV.flat, ite_true, ite_false, exists_eq_left', exists_eq_left, keyOf, implies_true, fillC, capOf]
  refine callK_of (g_IsHeap h.app hn) ?_
  simp (disch := omega) only [↓SXd, SXu, slBounds, ↓sop, ↓aop, ↓reduceIte, LV.cells, AOp.dst, LV.I, LV.B, LV.U, LV.S, LV.nil, Nat.reduceEqDiff, Nat.reduceAdd, Nat.reduceMul, Nat.reduceSub, Nat.reduceLeDiff, Nat.reduceBEq, Nat.reduceDiv, Nat.reduceMod, Int.reduceToNat, Int.reduceLT, Int.reduceLE, Int.reduceAdd, Int.reduceSub, Int.reduceMul, Int.reduceEq, Int.reduceNeg, reduceCtorEq, resV, resAll, ARes.ev, LV.flat, ite_true, ite_false, exists_eq_left', exists_eq_left, keyOf, implies_true, fillC, capOf]
  by_cases hH : HeapOK x y z cs
  · simp (disch := omega) only [hH, ↓SXd, SXu, slBounds, ↓sop, ↓aop, ↓reduceIte, LV.cells, AOp.dst, LV.I, LV.B, LV.U, LV.S, LV.nil, Nat.reduceEqDiff, Nat.reduceAdd, Nat.reduceMul, Nat.reduceSub, Nat.reduceLeDiff, Nat.reduceBEq, Nat.reduceDiv, Nat.reduceMod, Int.reduceToNat, Int.reduceLT, Int.reduceLE, Int.reduceAdd, Int.reduceSub, Int.reduceMul, Int.reduceEq, Int.reduceNeg, reduceCtorEq, resV, resAll, ARes.ev, LV.flat, ite_true, ite_false, exists_eq_left', exists_eq_left, keyOf, implies_true, fillC, capOf]
    refine callK_of (g_box) ?_
    simp (disch := omega) only [↓SXd, SXu, slBounds, ↓sop, ↓aop, ↓reduceIte, LV.cells, AOp.dst, LV.I, LV.B, LV.U, LV.S, LV.nil, Nat.reduceEqDiff, Nat.reduceAdd, Nat.reduceMul, Nat.reduceSub, Nat.reduceLeDiff, Nat.reduceBEq, Nat.reduceDiv, Nat.reduceMod, Int.reduceToNat, Int.reduceLT, Int.reduceLE, Int.reduceAdd, Int.reduceSub, Int.reduceMul, Int.reduceEq, Int.reduceNeg, reduceCtorEq, resV, resAll, ARes.ev, LV.flat, ite_true, ite_false, exists_eq_left', exists_eq_left, keyOf, implies_true, fillC, capOf]
    refine callK_of (g_cubes h.app hn hH.1 (fun c hc => hH.mem hc)) ?_
    simp (disch := omega) only [↓SXd, SXu, slBounds, ↓sop, ↓aop, ↓reduceIte, LV.cells, AOp.dst, LV.I, LV.B, LV.U, LV.S, LV.nil, Nat.reduceEqDiff, Nat.reduceAdd, Nat.reduceMul, Nat.reduceSub, Nat.reduceLeDiff, Nat.reduceBEq, Nat.reduceDiv, Nat.reduceMod, Int.reduceToNat, Int.reduceLT, Int.reduceLE, Int.reduceAdd, Int.reduceSub, Int.reduceMul, Int.reduceEq, Int.reduceNeg, reduceCtorEq, resV, resAll, ARes.ev, LV.flat, ite_true, ite_false, exists_eq_left', exists_eq_left, keyOf, implies_true, fillC, capOf]
    refine callK_of (g_stands hH.1) ?_
    simp (disch := omega) only [↓SXd, SXu, slBounds, ↓sop, ↓aop, ↓reduceIte, LV.cells, AOp.dst, LV.I, LV.B, LV.U, LV.S, LV.nil, Nat.reduceEqDiff, Nat.reduceAdd, Nat.reduceMul, Nat.reduceSub, Nat.reduceLeDiff, Nat.reduceBEq, Nat.reduceDiv, Nat.reduceMod, Int.reduceToNat, Int.reduceLT, Int.reduceLE, Int.reduceAdd, Int.reduceSub, Int.reduceMul, Int.reduceEq, Int.reduceNeg, reduceCtorEq, resV, resAll, ARes.ev, LV.flat, ite_true, ite_false, exists_eq_left', exists_eq_left, keyOf, implies_true, fillC, capOf]
    exact cmp_drop rfl
  · simp (disch := omega) only [hH, false_and, ↓SXd, SXu, slBounds, ↓sop, ↓aop, ↓reduceIte, LV.cells, AOp.dst, LV.I, LV.B, LV.U, LV.S, LV.nil, Nat.reduceEqDiff, Nat.reduceAdd, Nat.reduceMul, Nat.reduceSub, Nat.reduceLeDiff, Nat.reduceBEq, Nat.reduceDiv, Nat.reduceMod, Int.reduceToNat, Int.reduceLT, Int.reduceLE, Int.reduceAdd, Int.reduceSub, Int.reduceMul, Int.reduceEq, Int.reduceNeg, reduceCtorEq, resV, resAll, ARes.ev, LV.flat, ite_true, ite_false, exists_eq_left', exists_eq_left, keyOf, implies_true, fillC, capOf]
    exact cmp_drop rfl

theorem h_l7Stands {x y z : Int} {t : Nat} {w : Bool} {cs : List Cell} {M : Mem} (h : Live M t (.row (triL cs) w 3)) (hn : cs.length ≤ 1000000000) :
    CallsTo PG F.spec_l7Stands [.agg [.I x, .I y, .I z, .ref t 0 cs.length]] M (.B (decide (HeapOK x y z cs ∧ Firm x y z fun c => decide (c ∈ cs)))) M := by
  refine calls_run K.spec_l7Stands rfl ?_
  simp (disch := omega) only [C.spec_l7Stands, ↓SXd, SXu, slBounds, ↓sop, ↓aop, ↓reduceIte, LV.cells, AOp.dst, LV.I, LV.B, LV.U, LV.S, LV.nil, Nat.reduceEqDiff, Nat.reduceAdd, Nat.reduceMul, Nat.reduceSub, Nat.reduceLeDiff, Nat.reduceBEq, Nat.reduceDiv, Nat.reduceMod, Int.reduceToNat, Int.reduceLT, Int.reduceLE, Int.reduceAdd, Int.reduceSub, Int.reduceMul, Int.reduceEq, Int.reduceNeg, reduceCtorEq, resV, resAll, ARes.ev, LV.flat, ite_true, ite_false, exists_eq_left', exists_eq_left, keyOf, implies_true, fillC, capOf]
  refine callK_of (h_l2Heap (Has.app h.has) hn) ?_
  simp (disch := omega) only [↓SXd, SXu, slBounds, ↓sop, ↓aop, ↓reduceIte, LV.cells, AOp.dst, LV.I, LV.B, LV.U, LV.S, LV.nil, Nat.reduceEqDiff, Nat.reduceAdd, Nat.reduceMul, Nat.reduceSub, Nat.reduceLeDiff, Nat.reduceBEq, Nat.reduceDiv, Nat.reduceMod, Int.reduceToNat, Int.reduceLT, Int.reduceLE, Int.reduceAdd, Int.reduceSub, Int.reduceMul, Int.reduceEq, Int.reduceNeg, reduceCtorEq, resV, resAll, ARes.ev, LV.flat, ite_true, ite_false, exists_eq_left', exists_eq_left, keyOf, implies_true, fillC, capOf]
  by_cases hH : HeapOK x y z cs
  · have hf := firm_hang hH.1 (p := fun c => decide (c ∈ cs))
    have hpl := pick_len hH.1 (parted x y z (fun c => decide (c ∈ cs)) true)
    simp (disch := omega) only [hH, ↓SXd, SXu, slBounds, ↓sop, ↓aop, ↓reduceIte, LV.cells, AOp.dst, LV.I, LV.B, LV.U, LV.S, LV.nil, Nat.reduceEqDiff, Nat.reduceAdd, Nat.reduceMul, Nat.reduceSub, Nat.reduceLeDiff, Nat.reduceBEq, Nat.reduceDiv, Nat.reduceMod, Int.reduceToNat, Int.reduceLT, Int.reduceLE, Int.reduceAdd, Int.reduceSub, Int.reduceMul, Int.reduceEq, Int.reduceNeg, reduceCtorEq, resV, resAll, ARes.ev, LV.flat, ite_true, ite_false, exists_eq_left', exists_eq_left, keyOf, implies_true, fillC, capOf]
    refine callK_of (h_l7Parted h.app hH) ?_
    simp (disch := omega) only [↓SXd, SXu, slBounds, ↓sop, ↓aop, ↓reduceIte, LV.cells, AOp.dst, LV.I, LV.B, LV.U, LV.S, LV.nil, Nat.reduceEqDiff, Nat.reduceAdd, Nat.reduceMul, Nat.reduceSub, Nat.reduceLeDiff, Nat.reduceBEq, Nat.reduceDiv, Nat.reduceMod, Int.reduceToNat, Int.reduceLT, Int.reduceLE, Int.reduceAdd, Int.reduceSub, Int.reduceMul, Int.reduceEq, Int.reduceNeg, reduceCtorEq, resV, resAll, ARes.ev, LV.flat, ite_true, ite_false, exists_eq_left', exists_eq_left, keyOf, implies_true, fillC, capOf]
    rw [show decide ((((pick x y z (parted x y z (fun c => decide (c ∈ cs)) true)).length : Nat) : Int) = 0) = decide (Firm x y z fun c => decide (c ∈ cs)) from decide_eq_decide.2 ⟨fun e => hf.1 (by omega), fun e => by have := hf.2 e; omega⟩]
    exact cmp_drop rfl
  · simp (disch := omega) only [hH, false_and, ↓SXd, SXu, slBounds, ↓sop, ↓aop, ↓reduceIte, LV.cells, AOp.dst, LV.I, LV.B, LV.U, LV.S, LV.nil, Nat.reduceEqDiff, Nat.reduceAdd, Nat.reduceMul, Nat.reduceSub, Nat.reduceLeDiff, Nat.reduceBEq, Nat.reduceDiv, Nat.reduceMod, Int.reduceToNat, Int.reduceLT, Int.reduceLE, Int.reduceAdd, Int.reduceSub, Int.reduceMul, Int.reduceEq, Int.reduceNeg, reduceCtorEq, resV, resAll, ARes.ev, LV.flat, ite_true, ite_false, exists_eq_left', exists_eq_left, keyOf, implies_true, fillC, capOf]
    exact cmp_drop rfl

theorem h_l7Can {x y z : Int} {t : Nat} {w : Bool} {cs : List Cell} {c : Cell} {M : Mem} (h : Live M t (.row (triL cs) w 3)) (hH : HeapOK x y z cs) :
    CallsTo PG F.spec_l7Can [.agg [.I x, .I y, .I z, .ref t 0 cs.length], .agg [.I c.a, .I c.b, .I c.c]] M (.B (canTake x y z (fun d => decide (d ∈ cs)) c)) M := by
  have hn := hH.len
  have hS := hH.1
  refine calls_run K.spec_l7Can rfl ?_
  simp (disch := omega) only [C.spec_l7Can, ↓SXd, SXu, slBounds, ↓sop, ↓aop, ↓reduceIte, LV.cells, AOp.dst, LV.I, LV.B, LV.U, LV.S, LV.nil, Nat.reduceEqDiff, Nat.reduceAdd, Nat.reduceMul, Nat.reduceSub, Nat.reduceLeDiff, Nat.reduceBEq, Nat.reduceDiv, Nat.reduceMod, Int.reduceToNat, Int.reduceLT, Int.reduceLE, Int.reduceAdd, Int.reduceSub, Int.reduceMul, Int.reduceEq, Int.reduceNeg, reduceCtorEq, resV, resAll, ARes.ev, LV.flat, ite_true, ite_false, exists_eq_left', exists_eq_left, keyOf, implies_true, fillC, capOf]
  refine callK_of (h_l2Has (Has.app h.has) (by omega)) ?_
  simp (disch := omega) only [↓SXd, SXu, slBounds, ↓sop, ↓aop, ↓reduceIte, LV.cells, AOp.dst, LV.I, LV.B, LV.U, LV.S, LV.nil, Nat.reduceEqDiff, Nat.reduceAdd, Nat.reduceMul, Nat.reduceSub, Nat.reduceLeDiff, Nat.reduceBEq, Nat.reduceDiv, Nat.reduceMod, Int.reduceToNat, Int.reduceLT, Int.reduceLE, Int.reduceAdd, Int.reduceSub, Int.reduceMul, Int.reduceEq, Int.reduceNeg, reduceCtorEq, resV, resAll, ARes.ev, LV.flat, ite_true, ite_false, exists_eq_left', exists_eq_left, keyOf, implies_true, fillC, capOf]
  unfold canTake
  by_cases hc : c ∈ cs
  · simp (disch := omega) only [hc, cell_eta, ↓SXd, SXu, slBounds, ↓sop, ↓aop, ↓reduceIte, LV.cells, AOp.dst, LV.I, LV.B, LV.U, LV.S, LV.nil, Nat.reduceEqDiff, Nat.reduceAdd, Nat.reduceMul, Nat.reduceSub, Nat.reduceLeDiff, Nat.reduceBEq, Nat.reduceDiv, Nat.reduceMod, Int.reduceToNat, Int.reduceLT, Int.reduceLE, Int.reduceAdd, Int.reduceSub, Int.reduceMul, Int.reduceEq, Int.reduceNeg, reduceCtorEq, resV, resAll, ARes.ev, LV.flat, ite_true, ite_false, exists_eq_left', exists_eq_left, keyOf, implies_true, fillC, capOf]
    refine callK_of (h_l2Without (Has.app h.has) (by omega)) ?_
    simp (disch := omega) only [↓SXd, SXu, slBounds, ↓sop, ↓aop, ↓reduceIte, LV.cells, AOp.dst, LV.I, LV.B, LV.U, LV.S, LV.nil, Nat.reduceEqDiff, Nat.reduceAdd, Nat.reduceMul, Nat.reduceSub, Nat.reduceLeDiff, Nat.reduceBEq, Nat.reduceDiv, Nat.reduceMod, Int.reduceToNat, Int.reduceLT, Int.reduceLE, Int.reduceAdd, Int.reduceSub, Int.reduceMul, Int.reduceEq, Int.reduceNeg, reduceCtorEq, resV, resAll, ARes.ev, LV.flat, ite_true, ite_false, exists_eq_left', exists_eq_left, keyOf, implies_true, fillC, capOf]
    have hpe : cs.filter (fun d => !decide (d = c)) = pick x y z fun d => decide (d ∈ cs) && !decide (d = c) := by
      conv => lhs; rw [hH.pick]
      rw [filter_pick]
    rw [cell_eta, hpe]
    refine callK_of (h_l7Parted (Live.newj (M := M) (j := 2) rfl) (pick_ok hS _)) ?_
    have hf := firm_hang hS (p := fun d => decide (d ∈ cs) && !decide (d = c))
    have hcg : ∀ d, d.inBox x y z → parted x y z (fun d => decide (d ∈ pick x y z fun d => decide (d ∈ cs) && !decide (d = c))) true d = parted x y z (fun d => decide (d ∈ cs) && !decide (d = c)) true d := fun d hd => by
      have hm : ∀ e, e.inBox x y z → decide (e ∈ pick x y z fun d => decide (d ∈ cs) && !decide (d = c)) = (decide (e ∈ cs) && !decide (e = c)) := fun e he => by
        rw [Bool.eq_iff_iff, decide_eq_true_iff, mem_pick hS]; exact ⟨fun h => h.2, fun h => ⟨he, h⟩⟩
      unfold parted
      rw [stand_congr hm]
      simp only [hm d hd]
    rw [pick_congr hS hcg]
    simp (disch := omega) only [↓SXd, SXu, slBounds, ↓sop, ↓aop, ↓reduceIte, LV.cells, AOp.dst, LV.I, LV.B, LV.U, LV.S, LV.nil, Nat.reduceEqDiff, Nat.reduceAdd, Nat.reduceMul, Nat.reduceSub, Nat.reduceLeDiff, Nat.reduceBEq, Nat.reduceDiv, Nat.reduceMod, Int.reduceToNat, Int.reduceLT, Int.reduceLE, Int.reduceAdd, Int.reduceSub, Int.reduceMul, Int.reduceEq, Int.reduceNeg, reduceCtorEq, resV, resAll, ARes.ev, LV.flat, ite_true, ite_false, exists_eq_left', exists_eq_left, keyOf, implies_true, fillC, capOf]
    rw [show decide ((((pick x y z (parted x y z (fun d => decide (d ∈ cs) && !decide (d = c)) true)).length : Nat) : Int) = 0) = decide (Firm x y z fun d => decide (d ∈ cs) && !decide (d = c)) from decide_eq_decide.2 ⟨fun e => hf.1 (by omega), fun e => by have := hf.2 e; omega⟩]
    exact cmp_drop rfl
  · simp (disch := omega) only [hc, cell_eta, ↓SXd, SXu, slBounds, ↓sop, ↓aop, ↓reduceIte, LV.cells, AOp.dst, LV.I, LV.B, LV.U, LV.S, LV.nil, Nat.reduceEqDiff, Nat.reduceAdd, Nat.reduceMul, Nat.reduceSub, Nat.reduceLeDiff, Nat.reduceBEq, Nat.reduceDiv, Nat.reduceMod, Int.reduceToNat, Int.reduceLT, Int.reduceLE, Int.reduceAdd, Int.reduceSub, Int.reduceMul, Int.reduceEq, Int.reduceNeg, reduceCtorEq, resV, resAll, ARes.ev, LV.flat, ite_true, ite_false, exists_eq_left', exists_eq_left, keyOf, implies_true, fillC, capOf]
    exact cmp_drop rfl
end Go.Ab

/- Plain words: the first cell of a set; laying and taking orders. -/
namespace Go.Ab

def first (x y z : Int) (p : Cell → Bool) : Cell := (pick x y z p).headD default
theorem first_eq {x y z : Int} {p : Cell → Bool} {c : Cell} {rs : List Cell} (h : pick x y z p = c :: rs) : first x y z p = c := by unfold first; rw [h]; rfl
theorem nodup_sub {l m : List Cell} (hn : l.Nodup) (hm : ∀ c ∈ l, c ∈ m) : l.length ≤ m.length := by
  induction l generalizing m with
  | nil => simp
  | cons c l ih =>
    rw [List.nodup_cons] at hn
    have hc := hm c (by simp)
    have := ih (m := m.erase c) hn.2 fun d hd => (List.mem_erase_of_ne (fun e => hn.1 (by rw [← e]; exact hd))).2 (hm d (by simp [hd]))
    rw [List.length_erase_of_mem hc] at this
    have h0 : 0 < m.length := List.length_pos_of_mem hc
    simp only [List.length_cons]
    omega
section
variable {x y z : Int} (hS : Sides x y z)
include hS
/-- The first cell is the least one. -/
theorem first_spec {p : Cell → Bool} (h : ∃ c, c.inBox x y z ∧ p c = true) : (first x y z p).inBox x y z ∧ p (first x y z p) = true ∧ (∀ d, d.inBox x y z → p d = true → ¬ d.lt (first x y z p)) ∧ ∃ rs, pick x y z p = first x y z p :: rs := by
  obtain ⟨c, hc, hp⟩ := h
  have hm := (mem_pick hS (p := p) (c := c)).2 ⟨hc, hp⟩
  have hs := pick_sorted hS p
  cases hpk : pick x y z p with
  | nil => rw [hpk] at hm; simp at hm
  | cons a rs =>
    rw [first_eq hpk]
    have ha := (mem_pick hS (p := p) (c := a)).1 (by rw [hpk]; simp)
    refine ⟨ha.1, ha.2, fun d hd hpd hlt => ?_, rs, rfl⟩
    have hdm := (mem_pick hS (p := p) (c := d)).2 ⟨hd, hpd⟩
    rw [hpk] at hdm hs
    rw [List.pairwise_cons] at hs
    rcases List.mem_cons.1 hdm with rfl | h1
    · exact Cell.lt_irrefl _ hlt
    · exact Cell.lt_irrefl _ (Cell.lt_trans hlt (hs.1 d h1))
theorem first_low {p : Cell → Bool} (h : ∃ c, c.inBox x y z ∧ p c = true) : bs x y z p &&& -bs x y z p = bs x y z fun d => decide (d = first x y z p) := by
  obtain ⟨h1, h2, h3, _⟩ := first_spec hS h
  exact bs_low hS h1 h2 h3
/-- Looking for the first cell of a list of which p holds. -/
theorem first_at {p q : Cell → Bool} {k : Nat} (hk : k < (pick x y z q).length) (hlo : ∀ j, j < k → p ((pick x y z q).getD j default) = false) (hp : p ((pick x y z q).getD k default) = true) : first x y z (fun c => q c && p c) = (pick x y z q).getD k default := by
  have e : pick x y z (fun c => q c && p c) = (pick x y z q).filter p := by rw [filter_pick]
  unfold first
  rw [e]
  generalize pick x y z q = l at hk hlo hp
  induction l generalizing k with
  | nil => simp at hk
  | cons a l ih =>
    cases k with
    | zero => simp only [List.getD_cons_zero] at hp ⊢; rw [List.filter_cons_of_pos hp]; rfl
    | succ k =>
      have h0 := hlo 0 (by omega)
      simp only [List.getD_cons_zero] at h0
      simp only [List.getD_cons_succ] at hp ⊢
      rw [List.filter_cons_of_neg (by simp [h0])]
      exact ih (by simpa using hk) (fun j hj => by have := hlo (j + 1) (by omega); simpa using this) hp

/-- A cube that may be laid. -/
def layC (q : Cell → Bool) (laid : List Cell) : Cell → Bool := fun c => q c && (!decide (c ∈ laid) && (decide (c.c = 0) || laid.any fun d => decide (apart d c = 1)))
def layL (x y z : Int) (q : Cell → Bool) : Nat → List Cell
  | 0 => []
  | k + 1 => layL x y z q k ++ [first x y z (layC q (layL x y z q k))]

theorem lay_more {q : Cell → Bool} (hf : Firm x y z q) {laid : List Cell} (h : ∃ c, c.inBox x y z ∧ q c = true ∧ c ∉ laid) : ∃ c, c.inBox x y z ∧ layC q laid c = true := by
  obtain ⟨c, hc, hq, hn⟩ := h
  have hr := hf c hc hq
  unfold stand at hr
  rw [reach_iff] at hr
  have : (c.inBox x y z ∧ q c = true) ∧ (c ∈ laid ∨ ∃ c, c.inBox x y z ∧ layC q laid c = true) := by
    refine hr.ind (P := fun c => (c.inBox x y z ∧ q c = true) ∧ (c ∈ laid ∨ ∃ c, c.inBox x y z ∧ layC q laid c = true)) (fun e he h1 => ?_) (fun a b ha hab hb hqb => ?_)
    · simp only [Bool.and_eq_true, decide_eq_true_eq] at h1
      refine ⟨⟨he, h1.1⟩, ?_⟩
      by_cases hl : e ∈ laid
      · exact .inl hl
      · exact .inr ⟨e, he, by simp [layC, h1.1, hl, h1.2]⟩
    · refine ⟨⟨hb, hqb⟩, ?_⟩
      rcases ha.2 with h1 | h1
      · by_cases hl : b ∈ laid
        · exact .inl hl
        · refine .inr ⟨b, hb, ?_⟩
          simp only [layC, hqb, hl, Bool.and_eq_true, Bool.or_eq_true, List.any_eq_true, decide_eq_true_eq]
          simp only [decide_false, Bool.not_false, true_and]
          exact .inr ⟨a, h1, hab⟩
      · exact .inr h1
  exact this.2.resolve_left hn

theorem lay_ok {q : Cell → Bool} (hf : Firm x y z q) : ∀ k, k ≤ (pick x y z q).length → (layL x y z q k).length = k ∧ (layL x y z q k).Nodup ∧ (∀ c ∈ layL x y z q k, c.inBox x y z ∧ q c = true) ∧ (k < (pick x y z q).length → ∃ c, c.inBox x y z ∧ layC q (layL x y z q k) c = true) := by
  have hmore : ∀ k, (layL x y z q k).length = k → k < (pick x y z q).length → ∃ c, c.inBox x y z ∧ layC q (layL x y z q k) c = true := fun k hl hk => by
    refine lay_more hS hf ?_
    apply Classical.byContradiction
    intro hno
    have := nodup_sub (l := pick x y z q) (m := layL x y z q k) (pick_ok hS q).nodup fun c hc => by
      apply Classical.byContradiction
      intro hcl
      obtain ⟨h1, h2⟩ := (mem_pick hS).1 hc
      exact hno ⟨c, h1, h2, hcl⟩
    omega
  intro k
  induction k with
  | zero => intro hk; exact ⟨rfl, by simp [layL], by simp [layL], hmore 0 rfl⟩
  | succ k ih =>
    intro hk
    obtain ⟨h1, h2, h3, h4⟩ := ih (by omega)
    obtain ⟨f1, f2, _, _⟩ := first_spec hS (h4 (by omega))
    have hl : (layL x y z q (k + 1)).length = k + 1 := by simp [layL, h1]
    simp only [layC, Bool.and_eq_true, Bool.not_eq_true', decide_eq_false_iff_not] at f2
    refine ⟨hl, ?_, fun c hc => ?_, hmore (k + 1) hl⟩
    · simp only [layL]
      rw [List.nodup_append]
      refine ⟨h2, by simp, fun a ha b hb e => ?_⟩
      rw [List.mem_singleton.1 hb] at e
      subst e
      exact f2.2.1 ha
    · simp only [layL, List.mem_append, List.mem_singleton] at hc
      rcases hc with hc | rfl
      · exact h3 c hc
      · exact ⟨f1, f2.1⟩
/-- What has been laid stands by itself. -/
theorem lay_stand {q : Cell → Bool} (hf : Firm x y z q) {p : Cell → Bool} : ∀ k, k ≤ (pick x y z q).length → (∀ c ∈ layL x y z q k, p c = true) → ∀ c ∈ layL x y z q k, Reach x y z (fun e => p e && decide (e.c = 0)) p c := by
  intro k
  induction k with
  | zero => intro _ _ c hc; simp [layL] at hc
  | succ k ih =>
    intro hk hp c hc
    have ih := ih (by omega) fun d hd => hp d (by simp [layL, hd])
    simp only [layL, List.mem_append, List.mem_singleton] at hc
    rcases hc with hc | hc
    · exact ih c hc
    · obtain ⟨f1, f2, _, _⟩ := first_spec hS ((lay_ok hS hf k (by omega)).2.2.2 (by omega))
      rw [← hc] at f1 f2
      have hpc := hp c (by simp [layL, hc])
      simp only [layC, Bool.and_eq_true, Bool.or_eq_true, List.any_eq_true, decide_eq_true_eq] at f2
      rcases f2.2.2 with h0 | ⟨d, hd, ha⟩
      · exact .base f1 (by simp [hpc, h0])
      · exact .step (ih d hd) ha f1 hpc
theorem take_more {p : Cell → Bool} (hf : Firm x y z p) (h : ∃ c, c.inBox x y z ∧ p c = true) : ∃ c, c.inBox x y z ∧ canTake x y z p c = true := by
  obtain ⟨c0, hc0, hp0⟩ := h
  have hpos : 0 < (pick x y z p).length := List.length_pos_of_mem ((mem_pick hS).2 ⟨hc0, hp0⟩)
  obtain ⟨n, hn⟩ : ∃ n, (pick x y z p).length = n + 1 := ⟨(pick x y z p).length - 1, by omega⟩
  obtain ⟨k1, k2, k3, _⟩ := lay_ok hS hf (n + 1) (by omega)
  generalize hlast : first x y z (layC p (layL x y z p n)) = c
  have hL : layL x y z p (n + 1) = layL x y z p n ++ [c] := by simp only [layL]; rw [hlast]
  rw [hL] at k1 k2 k3
  obtain ⟨c1, c2⟩ := k3 c (by simp)
  rw [List.nodup_append] at k2
  have hnc : c ∉ layL x y z p n := fun h => k2.2.2 c h c (by simp) rfl
  refine ⟨c, c1, ?_⟩
  unfold canTake
  rw [c2, Bool.true_and, decide_eq_true_eq]
  intro d hd hpd
  simp only [Bool.and_eq_true, Bool.not_eq_true', decide_eq_false_iff_not] at hpd
  -- d has been laid before the last
  have hdl : d ∈ layL x y z p n := by
    apply Classical.byContradiction
    intro hdn
    have hnd : (d :: (layL x y z p n ++ [c])).Nodup := by
      rw [List.nodup_cons]
      refine ⟨fun h => ?_, by rw [List.nodup_append]; exact k2⟩
      rcases List.mem_append.1 h with h | h
      · exact hdn h
      · exact hpd.2 (List.mem_singleton.1 h)
    have := nodup_sub (m := pick x y z p) hnd fun e he => by
      rcases List.mem_cons.1 he with rfl | he
      · exact (mem_pick hS).2 ⟨hd, hpd.1⟩
      · exact (mem_pick hS).2 (k3 e he)
    simp only [List.length_cons] at this
    omega
  unfold stand
  rw [reach_iff]
  refine lay_stand hS hf n (by omega) (fun e he => ?_) d hdl
  simp only [Bool.and_eq_true, Bool.not_eq_true', decide_eq_false_iff_not]
  exact ⟨(k3 e (by simp [he])).2, fun e' => hnc (by rw [← e']; exact he)⟩

/-- The taking order. -/
noncomputable def takeL (x y z : Int) (q : Cell → Bool) : Nat → List Cell
  | 0 => []
  | k + 1 => takeL x y z q k ++ [first x y z (canTake x y z fun d => q d && !decide (d ∈ takeL x y z q k))]
theorem take_ok {q : Cell → Bool} (hf : Firm x y z q) : ∀ k, k ≤ (pick x y z q).length → (takeL x y z q k).length = k ∧ (takeL x y z q k).Nodup ∧ (∀ c ∈ takeL x y z q k, c.inBox x y z ∧ q c = true) ∧ Firm x y z (fun d => q d && !decide (d ∈ takeL x y z q k)) ∧
    (k < (pick x y z q).length → ∃ c, c.inBox x y z ∧ canTake x y z (fun d => q d && !decide (d ∈ takeL x y z q k)) c = true) := by
  have hmore : ∀ k, (takeL x y z q k).length = k → Firm x y z (fun d => q d && !decide (d ∈ takeL x y z q k)) → k < (pick x y z q).length → ∃ c, c.inBox x y z ∧ canTake x y z (fun d => q d && !decide (d ∈ takeL x y z q k)) c = true := fun k hl hfk hk => by
    refine take_more hS hfk ?_
    apply Classical.byContradiction
    intro hno
    have := nodup_sub (l := pick x y z q) (m := takeL x y z q k) (pick_ok hS q).nodup fun c hc => by
      apply Classical.byContradiction
      intro hcl
      obtain ⟨h1, h2⟩ := (mem_pick hS).1 hc
      exact hno ⟨c, h1, by simp [h2, hcl]⟩
    omega
  intro k
  induction k with
  | zero =>
    intro hk
    have hf0 : Firm x y z (fun d => q d && !decide (d ∈ takeL x y z q 0)) := (firm_congr fun c _ => by simp [takeL]).1 hf
    exact ⟨rfl, by simp [takeL], by simp [takeL], hf0, hmore 0 rfl hf0⟩
  | succ k ih =>
    intro hk
    obtain ⟨h1, h2, h3, h4, h5⟩ := ih (by omega)
    obtain ⟨f1, f2, _, _⟩ := first_spec hS (h5 (by omega))
    have hT : takeL x y z q (k + 1) = takeL x y z q k ++ [first x y z (canTake x y z fun d => q d && !decide (d ∈ takeL x y z q k))] := rfl
    generalize first x y z (canTake x y z fun d => q d && !decide (d ∈ takeL x y z q k)) = fc at f1 f2 hT
    have hl : (takeL x y z q (k + 1)).length = k + 1 := by rw [hT]; simp [h1]
    have f3 := f2
    unfold canTake at f3
    simp only [Bool.and_eq_true, Bool.not_eq_true', decide_eq_false_iff_not, decide_eq_true_eq] at f3
    have hfk : Firm x y z (fun d => q d && !decide (d ∈ takeL x y z q (k + 1))) := (firm_congr fun c _ => by
      rw [hT]
      simp only [List.mem_append, List.mem_singleton, Bool.decide_or, Bool.not_or, Bool.and_assoc]).1 f3.2
    refine ⟨hl, ?_, fun c hc => ?_, hfk, hmore (k + 1) hl hfk⟩
    · rw [hT, List.nodup_append]
      refine ⟨h2, by simp, fun a ha b hb e => ?_⟩
      rw [List.mem_singleton.1 hb] at e
      subst e
      exact f3.1.2 ha
    · rw [hT] at hc
      simp only [List.mem_append, List.mem_singleton] at hc
      rcases hc with hc | rfl
      · exact h3 c hc
      · exact ⟨f1, f3.1.1⟩
end
end Go.Ab

/- Contracts: taking orders, both sides. -/
namespace Go.Ab
open Go
set_option linter.unusedSimpArgs false
set_option linter.unusedVariables false

theorem canTake_sub {x y z : Int} {p : Cell → Bool} {c : Cell} (h : canTake x y z p c = true) : p c = true := by
  unfold canTake at h
  rw [Bool.and_eq_true] at h
  exact h.1
/-- What TakingOrder answers. -/
noncomputable def takeOf (x y z : Int) (cs : List Cell) : Option (List Cell) := by
  classical
  exact if HeapOK x y z cs ∧ Firm x y z (fun c => decide (c ∈ cs)) then some (takeL x y z (fun c => decide (c ∈ cs)) cs.length) else none
theorem g_TakingOrder {x y z : Int} {t : Nat} {w : Bool} {cs : List Cell} {M : Mem} (h0 : Live M t (.row (triL cs) w 3)) (hn : cs.length ≤ 1000000000) :
    CallsR PG F.impl_TakingOrder [.agg [.I x, .I y, .I z, .ref t 0 cs.length]] M (CellsRes M (takeOf x y z cs)) := by
  have h : Tri M t 0 cs := h0.has
  refine callsR_run K.impl_TakingOrder rfl ?_
  simp (disch := omega) only [C.impl_TakingOrder, ↓SXd, SXu, slBounds, ↓sop, ↓aop, ↓reduceIte, LV.cells, AOp.dst, LV.I, LV.B, LV.U, LV.S, LV.nil, Nat.reduceEqDiff, Nat.reduceAdd, Nat.reduceMul, Nat.reduceSub, Nat.reduceLeDiff, Nat.reduceBEq, Nat.reduceDiv, Nat.reduceMod, Int.reduceToNat, Int.reduceLT, Int.reduceLE, Int.reduceAdd, Int.reduceSub, Int.reduceMul, Int.reduceEq, Int.reduceNeg, reduceCtorEq, resV, resAll, ARes.ev, LV.flat, ite_true, ite_false, exists_eq_left', exists_eq_left, keyOf, implies_true, fillC, capOf]
  refine callK_of (g_isStanding h.app hn) ?_
  simp (disch := omega) only [↓SXd, SXu, slBounds, ↓sop, ↓aop, ↓reduceIte, LV.cells, AOp.dst, LV.I, LV.B, LV.U, LV.S, LV.nil, Nat.reduceEqDiff, Nat.reduceAdd, Nat.reduceMul, Nat.reduceSub, Nat.reduceLeDiff, Nat.reduceBEq, Nat.reduceDiv, Nat.reduceMod, Int.reduceToNat, Int.reduceLT, Int.reduceLE, Int.reduceAdd, Int.reduceSub, Int.reduceMul, Int.reduceEq, Int.reduceNeg, reduceCtorEq, resV, resAll, ARes.ev, LV.flat, ite_true, ite_false, exists_eq_left', exists_eq_left, keyOf, implies_true, fillC, capOf]
  unfold takeOf
  by_cases hV : HeapOK x y z cs ∧ Firm x y z (fun c => decide (c ∈ cs))
  · obtain ⟨hH, hF⟩ := id hV
    have hS := hH.1
    have hin := fun c hc => hH.mem (c := c) hc
    have hpk := hH.pick
    have hlen := hH.len
    have hlo := fun k hk => take_ok hS hF k hk
    rw [← hpk] at hlo
    rw [if_pos hV]
    simp (disch := omega) only [hV, ↓SXd, SXu, slBounds, ↓sop, ↓aop, ↓reduceIte, LV.cells, AOp.dst, LV.I, LV.B, LV.U, LV.S, LV.nil, Nat.reduceEqDiff, Nat.reduceAdd, Nat.reduceMul, Nat.reduceSub, Nat.reduceLeDiff, Nat.reduceBEq, Nat.reduceDiv, Nat.reduceMod, Int.reduceToNat, Int.reduceLT, Int.reduceLE, Int.reduceAdd, Int.reduceSub, Int.reduceMul, Int.reduceEq, Int.reduceNeg, reduceCtorEq, resV, resAll, ARes.ev, LV.flat, ite_true, ite_false, exists_eq_left', exists_eq_left, keyOf, implies_true, fillC, capOf]
    refine callK_of (g_box) ?_
    simp (disch := omega) only [splice, ↓SXd, SXu, slBounds, ↓sop, ↓aop, ↓reduceIte, LV.cells, AOp.dst, LV.I, LV.B, LV.U, LV.S, LV.nil, Nat.reduceEqDiff, Nat.reduceAdd, Nat.reduceMul, Nat.reduceSub, Nat.reduceLeDiff, Nat.reduceBEq, Nat.reduceDiv, Nat.reduceMod, Int.reduceToNat, Int.reduceLT, Int.reduceLE, Int.reduceAdd, Int.reduceSub, Int.reduceMul, Int.reduceEq, Int.reduceNeg, reduceCtorEq, resV, resAll, ARes.ev, LV.flat, ite_true, ite_false, exists_eq_left', exists_eq_left, keyOf, implies_true, fillC, capOf]
    refine callK_of (g_cubes h.app hn hS hin) ?_
    simp (disch := omega) only [↓SXd, SXu, slBounds, ↓sop, ↓aop, ↓reduceIte, LV.cells, AOp.dst, LV.I, LV.B, LV.U, LV.S, LV.nil, Nat.reduceEqDiff, Nat.reduceAdd, Nat.reduceMul, Nat.reduceSub, Nat.reduceLeDiff, Nat.reduceBEq, Nat.reduceDiv, Nat.reduceMod, Int.reduceToNat, Int.reduceLT, Int.reduceLE, Int.reduceAdd, Int.reduceSub, Int.reduceMul, Int.reduceEq, Int.reduceNeg, reduceCtorEq, resV, resAll, ARes.ev, LV.flat, ite_true, ite_false, exists_eq_left', exists_eq_left, keyOf, implies_true, fillC, capOf]
    refine ev_loop (fun m fr M' => ∃ (k u : Nat), k + m = cs.length ∧ Pre M M' ∧ Live M' (M.length + 2) (.row [.I x, .I y, .I z] true 0) ∧
      M.length ≤ u ∧ Live M' u (.row (triL (takeL x y z (fun c => decide (c ∈ cs)) k)) true 3) ∧ fr 4 = .ref u 0 (takeL x y z (fun c => decide (c ∈ cs)) k).length ∧ fr 5 = .ptr (M.length + 2) 0 ∧ fr 6 = .W (bs x y z fun c => decide (c ∈ cs) && !decide (c ∈ takeL x y z (fun c => decide (c ∈ cs)) k))) cs.length
      ⟨0, M.length + 1, by omega, Pre.app _ _, Live.newj rfl, by omega, Live.newj rfl, rfl, rfl, ?_⟩ ?_
    · rw [show (bs x y z fun c => decide (c ∈ cs) && !decide (c ∈ takeL x y z (fun c => decide (c ∈ cs)) 0)) = bs x y z fun c => decide (c ∈ cs) from (bs_eq hS).2 fun c _ => by simp [takeL]]
      rfl
    rintro m fr M' ⟨k, u, hk, hpre, b5, hu, hout, f4, f5, f6⟩
    obtain ⟨l1, l2, l3, lf, l4⟩ := hlo k (by omega)
    simp (disch := omega) only [f4, f5, f6, ↓SXd, SXu, slBounds, ↓sop, ↓aop, ↓reduceIte, LV.cells, AOp.dst, LV.I, LV.B, LV.U, LV.S, LV.nil, Nat.reduceEqDiff, Nat.reduceAdd, Nat.reduceMul, Nat.reduceSub, Nat.reduceLeDiff, Nat.reduceBEq, Nat.reduceDiv, Nat.reduceMod, Int.reduceToNat, Int.reduceLT, Int.reduceLE, Int.reduceAdd, Int.reduceSub, Int.reduceMul, Int.reduceEq, Int.reduceNeg, reduceCtorEq, resV, resAll, ARes.ev, LV.flat, ite_true, ite_false, exists_eq_left', exists_eq_left, keyOf, implies_true, fillC, capOf]
    by_cases hkn : k < cs.length
    · obtain ⟨s1, s2, s3, rs, s4⟩ := first_spec hS (l4 hkn)
      have hlow := first_low hS (l4 hkn)
      have hne : ¬ ((bs x y z fun c => decide (c ∈ cs) && !decide (c ∈ takeL x y z (fun c => decide (c ∈ cs)) k)) = 0#64) := fun e => by
        have h1 := (bs_zero hS).1 e _ s1
        have h2 := canTake_sub s2
        rw [h1] at h2
        cases h2
      simp (disch := omega) only [f4, f5, f6, hne, b5.cells, ↓SXd, SXu, slBounds, ↓sop, ↓aop, ↓reduceIte, LV.cells, AOp.dst, LV.I, LV.B, LV.U, LV.S, LV.nil, Nat.reduceEqDiff, Nat.reduceAdd, Nat.reduceMul, Nat.reduceSub, Nat.reduceLeDiff, Nat.reduceBEq, Nat.reduceDiv, Nat.reduceMod, Int.reduceToNat, Int.reduceLT, Int.reduceLE, Int.reduceAdd, Int.reduceSub, Int.reduceMul, Int.reduceEq, Int.reduceNeg, reduceCtorEq, resV, resAll, ARes.ev, LV.flat, ite_true, ite_false, exists_eq_left', exists_eq_left, keyOf, implies_true, fillC, capOf]
      refine callK_of (g_takeable hS) ?_
      simp (disch := omega) only [f4, f5, f6, b5.cells, ↓SXd, SXu, slBounds, ↓sop, ↓aop, ↓reduceIte, LV.cells, AOp.dst, LV.I, LV.B, LV.U, LV.S, LV.nil, Nat.reduceEqDiff, Nat.reduceAdd, Nat.reduceMul, Nat.reduceSub, Nat.reduceLeDiff, Nat.reduceBEq, Nat.reduceDiv, Nat.reduceMod, Int.reduceToNat, Int.reduceLT, Int.reduceLE, Int.reduceAdd, Int.reduceSub, Int.reduceMul, Int.reduceEq, Int.reduceNeg, reduceCtorEq, resV, resAll, ARes.ev, LV.flat, ite_true, ite_false, exists_eq_left', exists_eq_left, keyOf, implies_true, fillC, capOf]
      have hlay : takeL x y z (fun c => decide (c ∈ cs)) (k + 1) = takeL x y z (fun c => decide (c ∈ cs)) k ++ [first x y z (canTake x y z fun d => decide (d ∈ cs) && !decide (d ∈ takeL x y z (fun c => decide (c ∈ cs)) k))] := rfl
      generalize hfc : first x y z (canTake x y z fun d => decide (d ∈ cs) && !decide (d ∈ takeL x y z (fun c => decide (c ∈ cs)) k)) = fc at s1 s2 s3 s4 hlow hlay
      rw [hlow, bs_diff hS, show (bs x y z fun c => (decide (c ∈ cs) && !decide (c ∈ takeL x y z (fun c => decide (c ∈ cs)) k)) && !decide (c = fc)) = bs x y z fun c => decide (c ∈ cs) && !decide (c ∈ takeL x y z (fun c => decide (c ∈ cs)) (k + 1)) from (bs_eq hS).2 fun c _ => by rw [hlay]; simp only [List.mem_append, List.mem_singleton, Bool.decide_or, Bool.not_or, Bool.and_assoc]]
      refine callN_of (g_list hS) ?_
      intro tn N2 htn hp2 hnr
      simp (disch := omega) only [f4, f5, f6, ↓SXd, SXu, slBounds, ↓sop, ↓aop, ↓reduceIte, LV.cells, AOp.dst, LV.I, LV.B, LV.U, LV.S, LV.nil, Nat.reduceEqDiff, Nat.reduceAdd, Nat.reduceMul, Nat.reduceSub, Nat.reduceLeDiff, Nat.reduceBEq, Nat.reduceDiv, Nat.reduceMod, Int.reduceToNat, Int.reduceLT, Int.reduceLE, Int.reduceAdd, Int.reduceSub, Int.reduceMul, Int.reduceEq, Int.reduceNeg, reduceCtorEq, resV, resAll, ARes.ev, LV.flat, ite_true, ite_false, exists_eq_left', exists_eq_left, keyOf, implies_true, fillC, capOf]
      have hpl : 0 < (pick x y z (canTake x y z fun d => decide (d ∈ cs) && !decide (d ∈ takeL x y z (fun c => decide (c ∈ cs)) k))).length := by rw [s4]; simp
      have hg := hnr.tri0 hpl
      rw [s4, List.getD_cons_zero, Nat.zero_mul] at hg
      have eo2 := hout.pre hp2
      have hlM := b5.lt
      simp (disch := omega) only [f4, f5, f6, hg, Cell.row, splice, ↓SXd, SXu, slBounds, ↓sop, ↓aop, ↓reduceIte, LV.cells, AOp.dst, LV.I, LV.B, LV.U, LV.S, LV.nil, Nat.reduceEqDiff, Nat.reduceAdd, Nat.reduceMul, Nat.reduceSub, Nat.reduceLeDiff, Nat.reduceBEq, Nat.reduceDiv, Nat.reduceMod, Int.reduceToNat, Int.reduceLT, Int.reduceLE, Int.reduceAdd, Int.reduceSub, Int.reduceMul, Int.reduceEq, Int.reduceNeg, reduceCtorEq, resV, resAll, ARes.ev, LV.flat, ite_true, ite_false, exists_eq_left', exists_eq_left, keyOf, implies_true, fillC, capOf]
      refine appendK_cell eo2 (by omega) fun N3 j1 j2 j3 => ?_
      have hN2 := hp2.1
      rw [cell_eta, ← hlay] at j2
      simp (disch := omega) only [f4, f5, f6, ↓SXd, SXu, slBounds, ↓sop, ↓aop, ↓reduceIte, LV.cells, AOp.dst, LV.I, LV.B, LV.U, LV.S, LV.nil, Nat.reduceEqDiff, Nat.reduceAdd, Nat.reduceMul, Nat.reduceSub, Nat.reduceLeDiff, Nat.reduceBEq, Nat.reduceDiv, Nat.reduceMod, Int.reduceToNat, Int.reduceLT, Int.reduceLE, Int.reduceAdd, Int.reduceSub, Int.reduceMul, Int.reduceEq, Int.reduceNeg, reduceCtorEq, resV, resAll, ARes.ev, LV.flat, ite_true, ite_false, exists_eq_left', exists_eq_left, keyOf, implies_true, fillC, capOf]
      refine ⟨m - 1, by omega, k + 1, N2.length + 1, by omega, pre_step (hpre.trans hp2) (by omega) j1 j3, live_step (b5.pre hp2) (b5.ne_esz hout (by decide)) j3, ?_, j2, ?_, f5, rfl⟩
      · have := hpre.1; omega
      · rw [hlay]; rfl
    · have hkn' : k = cs.length := by omega
      subst hkn'
      have heq : (bs x y z fun c => decide (c ∈ cs) && !decide (c ∈ takeL x y z (fun c => decide (c ∈ cs)) cs.length)) = 0#64 := (bs_zero hS).2 fun c hc => by
        rw [Bool.and_eq_false_iff]
        by_cases hm : c ∈ cs
        · right
          simp only [Bool.not_eq_false', decide_eq_true_eq]
          apply Classical.byContradiction
          intro hno
          have := nodup_sub (l := c :: takeL x y z (fun c => decide (c ∈ cs)) cs.length) (m := cs) (by rw [List.nodup_cons]; exact ⟨hno, l2⟩) fun d hd => by
            rcases List.mem_cons.1 hd with rfl | hd
            · exact hm
            · exact of_decide_eq_true (l3 d hd).2
          simp only [List.length_cons] at this
          omega
        · left; simpa using hm
      simp (disch := omega) only [f4, f5, f6, heq, ↓SXd, SXu, slBounds, ↓sop, ↓aop, ↓reduceIte, LV.cells, AOp.dst, LV.I, LV.B, LV.U, LV.S, LV.nil, Nat.reduceEqDiff, Nat.reduceAdd, Nat.reduceMul, Nat.reduceSub, Nat.reduceLeDiff, Nat.reduceBEq, Nat.reduceDiv, Nat.reduceMod, Int.reduceToNat, Int.reduceLT, Int.reduceLE, Int.reduceAdd, Int.reduceSub, Int.reduceMul, Int.reduceEq, Int.reduceNeg, reduceCtorEq, resV, resAll, ARes.ev, LV.flat, ite_true, ite_false, exists_eq_left', exists_eq_left, keyOf, implies_true, fillC, capOf]
      exact ⟨_, rfl, SlC.of hout, Newer.of hu, hpre⟩
  · rw [if_neg hV]
    simp (disch := omega) only [hV, ↓SXd, SXu, slBounds, ↓sop, ↓aop, ↓reduceIte, LV.cells, AOp.dst, LV.I, LV.B, LV.U, LV.S, LV.nil, Nat.reduceEqDiff, Nat.reduceAdd, Nat.reduceMul, Nat.reduceSub, Nat.reduceLeDiff, Nat.reduceBEq, Nat.reduceDiv, Nat.reduceMod, Int.reduceToNat, Int.reduceLT, Int.reduceLE, Int.reduceAdd, Int.reduceSub, Int.reduceMul, Int.reduceEq, Int.reduceNeg, reduceCtorEq, resV, resAll, ARes.ev, LV.flat, ite_true, ite_false, exists_eq_left', exists_eq_left, keyOf, implies_true, fillC, capOf]
    exact ⟨_, rfl, SlC.nil, Newer.nil, Pre.app _ _⟩

theorem h_sTakingOrder {x y z : Int} {t : Nat} {w : Bool} {cs : List Cell} {M : Mem} (h : Live M t (.row (triL cs) w 3)) (hn : cs.length ≤ 1000000000) :
    CallsR PG F.spec_TakingOrder [.agg [.I x, .I y, .I z, .ref t 0 cs.length]] M (CellsRes M (takeOf x y z cs)) := by
  refine callsR_run K.spec_TakingOrder rfl ?_
  simp (disch := omega) only [C.spec_TakingOrder, ↓SXd, SXu, slBounds, ↓sop, ↓aop, ↓reduceIte, LV.cells, AOp.dst, LV.I, LV.B, LV.U, LV.S, LV.nil, Nat.reduceEqDiff, Nat.reduceAdd, Nat.reduceMul, Nat.reduceSub, Nat.reduceLeDiff, Nat.reduceBEq, Nat.reduceDiv, Nat.reduceMod, Int.reduceToNat, Int.reduceLT, Int.reduceLE, Int.reduceAdd, Int.reduceSub, Int.reduceMul, Int.reduceEq, Int.reduceNeg, reduceCtorEq, resV, resAll, ARes.ev, LV.flat, ite_true, ite_false, exists_eq_left', exists_eq_left, keyOf, implies_true, fillC, capOf]
  refine callK_of (h_l7Stands h.app hn) ?_
  simp (disch := omega) only [↓SXd, SXu, slBounds, ↓sop, ↓aop, ↓reduceIte, LV.cells, AOp.dst, LV.I, LV.B, LV.U, LV.S, LV.nil, Nat.reduceEqDiff, Nat.reduceAdd, Nat.reduceMul, Nat.reduceSub, Nat.reduceLeDiff, Nat.reduceBEq, Nat.reduceDiv, Nat.reduceMod, Int.reduceToNat, Int.reduceLT, Int.reduceLE, Int.reduceAdd, Int.reduceSub, Int.reduceMul, Int.reduceEq, Int.reduceNeg, reduceCtorEq, resV, resAll, ARes.ev, LV.flat, ite_true, ite_false, exists_eq_left', exists_eq_left, keyOf, implies_true, fillC, capOf]
  unfold takeOf
  by_cases hV : HeapOK x y z cs ∧ Firm x y z (fun c => decide (c ∈ cs))
  · obtain ⟨hH, hF⟩ := id hV
    have hS := hH.1
    have hin := fun c hc => hH.mem (c := c) hc
    have hpk := hH.pick
    have hlen := hH.len
    have hlo := fun k hk => take_ok hS hF k hk
    rw [← hpk] at hlo
    rw [if_pos hV]
    simp (disch := omega) only [hV, ↓SXd, SXu, slBounds, ↓sop, ↓aop, ↓reduceIte, LV.cells, AOp.dst, LV.I, LV.B, LV.U, LV.S, LV.nil, Nat.reduceEqDiff, Nat.reduceAdd, Nat.reduceMul, Nat.reduceSub, Nat.reduceLeDiff, Nat.reduceBEq, Nat.reduceDiv, Nat.reduceMod, Int.reduceToNat, Int.reduceLT, Int.reduceLE, Int.reduceAdd, Int.reduceSub, Int.reduceMul, Int.reduceEq, Int.reduceNeg, reduceCtorEq, resV, resAll, ARes.ev, LV.flat, ite_true, ite_false, exists_eq_left', exists_eq_left, keyOf, implies_true, fillC, capOf]
    refine ev_loop (fun m fr M' => ∃ (k u v : Nat) (w : Bool), k + m = cs.length ∧ Pre M M' ∧ Live M' M.length (.row [.I x, .I y, .I z, .ref v 0 (pick x y z fun c => decide (c ∈ cs) && !decide (c ∈ takeL x y z (fun c => decide (c ∈ cs)) k)).length] true 0) ∧
      Live M' v (.row (triL (pick x y z fun c => decide (c ∈ cs) && !decide (c ∈ takeL x y z (fun c => decide (c ∈ cs)) k))) w 3) ∧ M.length ≤ u ∧ u ≠ v ∧ Live M' u (.row (triL (takeL x y z (fun c => decide (c ∈ cs)) k)) true 3) ∧ fr 1 = .ptr M.length 0 ∧ fr 4 = .ref u 0 (takeL x y z (fun c => decide (c ∈ cs)) k).length) cs.length
      ⟨0, M.length + 1, t, w, by omega, Pre.app _ _, ?_, ?_, by omega, by have := h.lt; omega, Live.newj rfl, rfl, rfl⟩ ?_
    · rw [show (pick x y z fun c => decide (c ∈ cs) && !decide (c ∈ takeL x y z (fun c => decide (c ∈ cs)) 0)) = cs from (pick_congr hS fun c _ => by simp [takeL]).trans hpk.symm]; exact Live.new
    · rw [show (pick x y z fun c => decide (c ∈ cs) && !decide (c ∈ takeL x y z (fun c => decide (c ∈ cs)) 0)) = cs from (pick_congr hS fun c _ => by simp [takeL]).trans hpk.symm]; exact h.app
    rintro m fr M' ⟨k, u, v, w, hk, hpre, b1, bv, hu, huv, hout, f1, f4⟩
    obtain ⟨l1, l2, l3, lf, l4⟩ := hlo k (by omega)
    have hHk := pick_ok hS fun c => decide (c ∈ cs) && !decide (c ∈ takeL x y z (fun c => decide (c ∈ cs)) k)
    have hpl := hHk.len
    have hlM := b1.lt
    simp (disch := omega) only [f1, f4, b1.cell, ↓SXd, SXu, slBounds, ↓sop, ↓aop, ↓reduceIte, LV.cells, AOp.dst, LV.I, LV.B, LV.U, LV.S, LV.nil, Nat.reduceEqDiff, Nat.reduceAdd, Nat.reduceMul, Nat.reduceSub, Nat.reduceLeDiff, Nat.reduceBEq, Nat.reduceDiv, Nat.reduceMod, Int.reduceToNat, Int.reduceLT, Int.reduceLE, Int.reduceAdd, Int.reduceSub, Int.reduceMul, Int.reduceEq, Int.reduceNeg, reduceCtorEq, resV, resAll, ARes.ev, LV.flat, ite_true, ite_false, exists_eq_left', exists_eq_left, keyOf, implies_true, fillC, capOf]
    refine condC_dec (fun hlt => ?_) (fun hlt => ?_)
    rotate_left
    · simp (disch := omega) only [f1, f4, ↓SXd, SXu, slBounds, ↓sop, ↓aop, ↓reduceIte, LV.cells, AOp.dst, LV.I, LV.B, LV.U, LV.S, LV.nil, Nat.reduceEqDiff, Nat.reduceAdd, Nat.reduceMul, Nat.reduceSub, Nat.reduceLeDiff, Nat.reduceBEq, Nat.reduceDiv, Nat.reduceMod, Int.reduceToNat, Int.reduceLT, Int.reduceLE, Int.reduceAdd, Int.reduceSub, Int.reduceMul, Int.reduceEq, Int.reduceNeg, reduceCtorEq, resV, resAll, ARes.ev, LV.flat, ite_true, ite_false, exists_eq_left', exists_eq_left, keyOf, implies_true, fillC, capOf]
      have hkn : k = cs.length := by
        rcases Nat.lt_or_ge k cs.length with hk1 | hk1
        · exfalso
          obtain ⟨c, c1, c2⟩ := l4 hk1
          unfold canTake at c2
          simp only [Bool.and_eq_true] at c2
          have := List.length_pos_of_mem ((mem_pick hS (p := fun c => decide (c ∈ cs) && !decide (c ∈ takeL x y z (fun c => decide (c ∈ cs)) k)) (c := c)).2 ⟨c1, by simp only [Bool.and_eq_true]; exact c2.1⟩)
          omega
        · omega
      subst hkn
      exact ⟨_, rfl, SlC.of hout, Newer.of hu, hpre⟩
    · have hkn : k < cs.length := by
        rcases Nat.lt_or_ge k cs.length with hk1 | hk1
        · exact hk1
        · exfalso
          have hpos : 0 < (pick x y z fun c => decide (c ∈ cs) && !decide (c ∈ takeL x y z (fun c => decide (c ∈ cs)) k)).length := by omega
          obtain ⟨c, hc⟩ := List.exists_mem_of_length_pos hpos
          obtain ⟨c1, c2⟩ := (mem_pick hS).1 hc
          simp only [Bool.and_eq_true, Bool.not_eq_true', decide_eq_false_iff_not, decide_eq_true_eq] at c2
          have := nodup_sub (l := c :: takeL x y z (fun c => decide (c ∈ cs)) k) (m := cs) (by rw [List.nodup_cons]; exact ⟨c2.2, l2⟩) fun d hd => by
            rcases List.mem_cons.1 hd with rfl | hd
            · exact c2.1
            · exact of_decide_eq_true (l3 d hd).2
          simp only [List.length_cons] at this
          omega
      simp (disch := omega) only [f1, f4, ↓SXd, SXu, slBounds, ↓sop, ↓aop, ↓reduceIte, LV.cells, AOp.dst, LV.I, LV.B, LV.U, LV.S, LV.nil, Nat.reduceEqDiff, Nat.reduceAdd, Nat.reduceMul, Nat.reduceSub, Nat.reduceLeDiff, Nat.reduceBEq, Nat.reduceDiv, Nat.reduceMod, Int.reduceToNat, Int.reduceLT, Int.reduceLE, Int.reduceAdd, Int.reduceSub, Int.reduceMul, Int.reduceEq, Int.reduceNeg, reduceCtorEq, resV, resAll, ARes.ev, LV.flat, ite_true, ite_false, exists_eq_left', exists_eq_left, keyOf, implies_true, fillC, capOf]
      obtain ⟨s1, s2, s3, rs, s4⟩ := first_spec hS (l4 hkn)
      have hlay : takeL x y z (fun c => decide (c ∈ cs)) (k + 1) = takeL x y z (fun c => decide (c ∈ cs)) k ++ [first x y z (canTake x y z fun d => decide (d ∈ cs) && !decide (d ∈ takeL x y z (fun c => decide (c ∈ cs)) k))] := rfl
      have hqm : ∀ d, d.inBox x y z → decide (d ∈ pick x y z fun c => decide (c ∈ cs) && !decide (c ∈ takeL x y z (fun c => decide (c ∈ cs)) k)) = (decide (d ∈ cs) && !decide (d ∈ takeL x y z (fun c => decide (c ∈ cs)) k)) := fun d hd => by
        rw [Bool.eq_iff_iff, decide_eq_true_iff, mem_pick hS]; exact ⟨fun h => h.2, fun h => ⟨hd, h⟩⟩
      have hct : ∀ c, c.inBox x y z → canTake x y z (fun d => decide (d ∈ pick x y z fun c => decide (c ∈ cs) && !decide (c ∈ takeL x y z (fun c => decide (c ∈ cs)) k))) c = canTake x y z (fun d => decide (d ∈ cs) && !decide (d ∈ takeL x y z (fun c => decide (c ∈ cs)) k)) c := fun c hc => by
        unfold canTake
        simp only [hqm c hc]
        congr 1
        exact decide_eq_decide.2 (firm_congr fun d hd => by simp only [hqm d hd])
      generalize hqk : (fun c => decide (c ∈ cs) && !decide (c ∈ takeL x y z (fun c => decide (c ∈ cs)) k)) = q at s1 s2 s3 s4 hlay hct b1 bv hpl hHk hqm hlt lf l4 ⊢
      have hfa := @first_at x y z hS (canTake x y z q) q
      have hcq : ∀ c, (q c && canTake x y z q c) = canTake x y z q c := fun c => by unfold canTake; cases q c <;> simp
      rw [show (fun c => q c && canTake x y z q c) = canTake x y z q from funext hcq] at hfa
      refine ev_loop (fun m2 fr N => ∃ i : Nat, i + m2 = (pick x y z q).length ∧ Pre M N ∧ Live N M.length (.row [.I x, .I y, .I z, .ref v 0 (pick x y z q).length] true 0) ∧ Live N v (.row (triL (pick x y z q)) w 3) ∧ Live N u (.row (triL (takeL x y z (fun c => decide (c ∈ cs)) k)) true 3) ∧
        fr 1 = .ptr M.length 0 ∧ fr 4 = .ref u 0 (takeL x y z (fun c => decide (c ∈ cs)) k).length ∧ fr 5 = .I i ∧ ∀ j, j < i → canTake x y z q ((pick x y z q).getD j default) = false) (pick x y z q).length
        ⟨0, by omega, hpre, b1, bv, hout, f1, f4, rfl, by omega⟩ ?_
      clear f1 f4 hpre b1 bv hout
      rintro m2 fr N ⟨i, hi, hpre, b1, bv, hout, f1, f4, f5, hno⟩
      have hlM := b1.lt
      have hil : i < (pick x y z q).length := by
        apply Classical.byContradiction
        intro hge
        have hcp : first x y z (canTake x y z q) ∈ pick x y z q := (mem_pick hS).2 ⟨s1, by have := s2; unfold canTake at this; simp only [Bool.and_eq_true] at this; exact this.1⟩
        obtain ⟨j, hj, hje⟩ := List.getElem_of_mem hcp
        have := hno j (by omega)
        rw [show (pick x y z q).getD j default = first x y z (canTake x y z q) by simp [hj, hje], s2] at this
        cases this
      have hci := ((mem_pick hS).1 (getD_mem' (d := default) hil)).1
      have hg := bv.tri0 hil
      simp (disch := omega) only [f1, f4, f5, b1.cells, b1.cell, hg, Cell.row, ↓SXd, SXu, slBounds, ↓sop, ↓aop, ↓reduceIte, LV.cells, AOp.dst, LV.I, LV.B, LV.U, LV.S, LV.nil, Nat.reduceEqDiff, Nat.reduceAdd, Nat.reduceMul, Nat.reduceSub, Nat.reduceLeDiff, Nat.reduceBEq, Nat.reduceDiv, Nat.reduceMod, Int.reduceToNat, Int.reduceLT, Int.reduceLE, Int.reduceAdd, Int.reduceSub, Int.reduceMul, Int.reduceEq, Int.reduceNeg, reduceCtorEq, resV, resAll, ARes.ev, LV.flat, ite_true, ite_false, exists_eq_left', exists_eq_left, keyOf, implies_true, fillC, capOf]
      refine callK_of (h_l7Can bv hHk) ?_
      simp (disch := omega) only [f1, f4, f5, ↓SXd, SXu, slBounds, ↓sop, ↓aop, ↓reduceIte, LV.cells, AOp.dst, LV.I, LV.B, LV.U, LV.S, LV.nil, Nat.reduceEqDiff, Nat.reduceAdd, Nat.reduceMul, Nat.reduceSub, Nat.reduceLeDiff, Nat.reduceBEq, Nat.reduceDiv, Nat.reduceMod, Int.reduceToNat, Int.reduceLT, Int.reduceLE, Int.reduceAdd, Int.reduceSub, Int.reduceMul, Int.reduceEq, Int.reduceNeg, reduceCtorEq, resV, resAll, ARes.ev, LV.flat, ite_true, ite_false, exists_eq_left', exists_eq_left, keyOf, implies_true, fillC, capOf]
      rw [hct _ hci]
      cases hca : canTake x y z q ((pick x y z q).getD i default) with
      | false =>
        simp (disch := omega) only [f1, f4, f5, ↓SXd, SXu, slBounds, ↓sop, ↓aop, ↓reduceIte, LV.cells, AOp.dst, LV.I, LV.B, LV.U, LV.S, LV.nil, Nat.reduceEqDiff, Nat.reduceAdd, Nat.reduceMul, Nat.reduceSub, Nat.reduceLeDiff, Nat.reduceBEq, Nat.reduceDiv, Nat.reduceMod, Int.reduceToNat, Int.reduceLT, Int.reduceLE, Int.reduceAdd, Int.reduceSub, Int.reduceMul, Int.reduceEq, Int.reduceNeg, reduceCtorEq, resV, resAll, ARes.ev, LV.flat, ite_true, ite_false, exists_eq_left', exists_eq_left, keyOf, implies_true, fillC, capOf]
        exact ⟨m2 - 1, by omega, i + 1, by omega, hpre, b1, bv, hout, f1, f4, eqI (natI _), fun j hj => by
          rcases Nat.lt_or_ge j i with h1 | h1
          · exact hno j h1
          · rw [show j = i by omega]; exact hca⟩
      | true =>
        have hfi := hfa hil hno hca
        rw [hfi] at hlay
        simp (disch := omega) only [f1, f4, f5, b1.cell, hg, Cell.row, splice, ↓SXd, SXu, slBounds, ↓sop, ↓aop, ↓reduceIte, LV.cells, AOp.dst, LV.I, LV.B, LV.U, LV.S, LV.nil, Nat.reduceEqDiff, Nat.reduceAdd, Nat.reduceMul, Nat.reduceSub, Nat.reduceLeDiff, Nat.reduceBEq, Nat.reduceDiv, Nat.reduceMod, Int.reduceToNat, Int.reduceLT, Int.reduceLE, Int.reduceAdd, Int.reduceSub, Int.reduceMul, Int.reduceEq, Int.reduceNeg, reduceCtorEq, resV, resAll, ARes.ev, LV.flat, ite_true, ite_false, exists_eq_left', exists_eq_left, keyOf, implies_true, fillC, capOf]
        refine appendK_cell hout (by omega) fun N2 j1 j2 j3 => ?_
        have hpu : Pre M N2 := pre_step hpre (by omega) j1 j3
        have c1 := live_step b1 (b1.ne_esz hout (by decide)) j3
        have cv := live_step bv (by omega) j3
        have hg2 := cv.tri0 hil
        rw [cell_eta, ← hlay] at j2
        simp (disch := omega) only [f1, f4, f5, c1.cells, c1.cell, hg2, Cell.row, ↓SXd, SXu, slBounds, ↓sop, ↓aop, ↓reduceIte, LV.cells, AOp.dst, LV.I, LV.B, LV.U, LV.S, LV.nil, Nat.reduceEqDiff, Nat.reduceAdd, Nat.reduceMul, Nat.reduceSub, Nat.reduceLeDiff, Nat.reduceBEq, Nat.reduceDiv, Nat.reduceMod, Int.reduceToNat, Int.reduceLT, Int.reduceLE, Int.reduceAdd, Int.reduceSub, Int.reduceMul, Int.reduceEq, Int.reduceNeg, reduceCtorEq, resV, resAll, ARes.ev, LV.flat, ite_true, ite_false, exists_eq_left', exists_eq_left, keyOf, implies_true, fillC, capOf]
        refine callH_of (h_l2Without cv.has (by omega)) ?_
        intro v2 N3 hv2 hp3 hvr
        have hst : (pick x y z q).filter (fun d => !decide (d = (pick x y z q).getD i default)) = pick x y z fun c => decide (c ∈ cs) && !decide (c ∈ takeL x y z (fun c => decide (c ∈ cs)) (k + 1)) := by
          rw [filter_pick]
          refine pick_congr hS fun d _ => ?_
          rw [hlay, ← hqk]
          simp only [List.mem_append, List.mem_singleton, Bool.decide_or, Bool.not_or, Bool.and_assoc]
        rw [cell_eta, hst] at hvr ⊢
        simp (disch := omega) only [f1, f4, f5, ↓SXd, SXu, slBounds, ↓sop, ↓aop, ↓reduceIte, LV.cells, AOp.dst, LV.I, LV.B, LV.U, LV.S, LV.nil, Nat.reduceEqDiff, Nat.reduceAdd, Nat.reduceMul, Nat.reduceSub, Nat.reduceLeDiff, Nat.reduceBEq, Nat.reduceDiv, Nat.reduceMod, Int.reduceToNat, Int.reduceLT, Int.reduceLE, Int.reduceAdd, Int.reduceSub, Int.reduceMul, Int.reduceEq, Int.reduceNeg, reduceCtorEq, resV, resAll, ARes.ev, LV.flat, ite_true, ite_false, exists_eq_left', exists_eq_left, keyOf, implies_true, fillC, capOf]
        refine memK_box (c1.pre hp3) (by simp) fun N4 q1 q2 q3 => ?_
        have hN3 := hp3.1
        have hlN := hout.lt
        have hlv := hvr.lt
        have hlM := hpre.1
        simp (disch := omega) only [f1, f4, f5, ↓SXd, SXu, slBounds, ↓sop, ↓aop, ↓reduceIte, LV.cells, AOp.dst, LV.I, LV.B, LV.U, LV.S, LV.nil, Nat.reduceEqDiff, Nat.reduceAdd, Nat.reduceMul, Nat.reduceSub, Nat.reduceLeDiff, Nat.reduceBEq, Nat.reduceDiv, Nat.reduceMod, Int.reduceToNat, Int.reduceLT, Int.reduceLE, Int.reduceAdd, Int.reduceSub, Int.reduceMul, Int.reduceEq, Int.reduceNeg, reduceCtorEq, resV, resAll, ARes.ev, LV.flat, ite_true, ite_false, exists_eq_left', exists_eq_left, keyOf, implies_true, fillC, capOf]
        exact ⟨m - 1, by omega, k + 1, N.length + 1, v2, true, by omega, pre_step (hpu.trans hp3) (by omega) (j := 0) q1 q3, q2, live_step hvr (by omega) q3, by omega, by omega, live_step (j2.pre hp3) (by omega) q3, f1, by rw [hlay]; rfl⟩
  · rw [if_neg hV]
    simp (disch := omega) only [hV, ↓SXd, SXu, slBounds, ↓sop, ↓aop, ↓reduceIte, LV.cells, AOp.dst, LV.I, LV.B, LV.U, LV.S, LV.nil, Nat.reduceEqDiff, Nat.reduceAdd, Nat.reduceMul, Nat.reduceSub, Nat.reduceLeDiff, Nat.reduceBEq, Nat.reduceDiv, Nat.reduceMod, Int.reduceToNat, Int.reduceLT, Int.reduceLE, Int.reduceAdd, Int.reduceSub, Int.reduceMul, Int.reduceEq, Int.reduceNeg, reduceCtorEq, resV, resAll, ARes.ev, LV.flat, ite_true, ite_false, exists_eq_left', exists_eq_left, keyOf, implies_true, fillC, capOf]
    exact ⟨_, rfl, SlC.of (l := []) (Live.newj (j := 1) rfl), Newer.of (by omega), Pre.app _ _⟩
end Go.Ab

/- The abstract code of some functions (written by a program of mine from the translation, by way of prepF). -/
namespace Go.Ab.C
open Go.Ab
def impl_LayingOrder : AFn :=
 ⟨1, 36, [.tmp 2, .tmp 3],
 .seq (.ops [(none, .box 1 (.t 0)),
 (none, .mv 2 (.c .nil)),
 (none, .mv 3 (.c (.B false)))])
 (.seq (.seq (.ops [(none, .loadN 8 4 (.t 1)),
 (none, .call (some 9) F.impl_isStanding [(.t 8)]),
 (none, .un 10 .not (.t 9))])
 (.cond (.t 10) (.seq (.ops [(none, .mv 2 (.c .nil)),
 (none, .mv 3 (.c (.B false)))])
 (.ret))
 (.skip)))
 (.seq (.ops [(none, .buildSl 11 0 3 [] []),
 (none, .loadN 12 4 (.t 1)),
 (none, .call (some 13) F.impl_Heap_box [(.t 12)]),
 (none, .alloc 5 [(.I 0), (.I 0), (.I 0)]),
 (none, .alloc 6 [(.U 0)]),
 (none, .mv 4 (.t 11)),
 (none, .store 3 (.t 5) (.t 13)),
 (none, .store 1 (.t 6) (.c (.U 0)))])
 (.seq (.block 0 (.loop (.seq (.seq (.draw [⟨(none, .load1 14 (.t 6)), [], []⟩,
 ⟨(none, .loadN 15 4 (.t 1)), [], []⟩,
 ⟨(none, .call (some 16) F.impl_Heap_cubes [(.t 15)]), [], [0]⟩,
 ⟨(none, .bin 17 .neq (.t 14) (.t 16)), [], []⟩])
 (.cond (.t 17) (.skip)
 (.exit 0)))
 (.block 1 (.seq (.ops [(none, .loadN 18 3 (.t 5)),
 (none, .mkf 19 F.impl_LayingOrder_1 [(.t 1), (.t 6), (.t 5)]),
 (none, .call (some 20) F.impl_box_those [(.t 18), (.t 19)]),
 (none, .mv 7 (.t 20))])
 (.seq (.ops [(none, .load1 21 (.t 6)),
 (none, .mv 22 (.t 7)),
 (none, .mv 23 (.t 7)),
 (none, .un 24 .neg (.t 23)),
 (none, .bin 25 .and (.t 22) (.t 24)),
 (none, .bin 26 .or (.t 21) (.t 25)),
 (none, .store 1 (.t 6) (.t 26))])
 (.ops [(none, .mv 27 (.t 4)),
 (none, .loadN 28 3 (.t 5)),
 (none, .mv 29 (.t 7)),
 (none, .call (some 30) F.impl_box_list [(.t 28), (.t 29)]),
 (none, .idxS 31 3 (.t 30) (.c (.I 0))),
 (none, .loadN 32 3 (.t 31)),
 (none, .buildSl 33 1 3 [(.I 0), (.I 0), (.I 0)] [(0, 3, (.t 32))]),
 (none, .append 34 3 24 (.t 27) (.t 33)),
 (none, .mv 4 (.t 34))])))))))
 (.seq (.ops [(none, .mv 35 (.t 4)),
 (none, .mv 2 (.t 35)),
 (none, .mv 3 (.c (.B true)))])
 (.ret)))))⟩
def impl_LayingOrder_1 : AFn :=
 ⟨4, 30, [.tmp 5],
 .seq (.ops [(none, .box 4 (.t 0)),
 (none, .mv 5 (.c (.B false)))])
 (.seq (.draw [⟨(none, .loadN 6 4 (.t 1)), [], []⟩,
 ⟨(none, .loadN 7 3 (.t 4)), [], []⟩,
 ⟨(none, .call (some 8) F.impl_Heap_hasCube [(.t 6), (.t 7)]), [], []⟩,
 ⟨(none, .mv 9 (.t 8)), [], []⟩,
 ⟨(some (9, true), .load1 10 (.t 2)), [], []⟩,
 ⟨(some (9, true), .loadN 11 3 (.t 3)), [], []⟩,
 ⟨(some (9, true), .loadN 12 3 (.t 4)), [], []⟩,
 ⟨(some (9, true), .call (some 13) F.impl_box_index [(.t 11), (.t 12)]), [], [4]⟩,
 ⟨(some (9, true), .call (some 14) F.impl_set_has [(.t 10), (.t 13)]), [], []⟩,
 ⟨(some (9, true), .un 15 .not (.t 14)), [], []⟩,
 ⟨(none, .pick 16 (.t 9) (.t 15) (.c (.B false))), [], []⟩,
 ⟨(none, .mv 17 (.t 16)), [], []⟩,
 ⟨(some (17, true), .idxA 18 3 1 (.t 4) (.c (.I 2))), [], []⟩,
 ⟨(some (17, true), .load1 19 (.t 18)), [], []⟩,
 ⟨(some (17, true), .bin 20 .eql (.t 19) (.c (.I 0))), [], []⟩,
 ⟨(some (17, true), .mv 21 (.t 20)), [], []⟩,
 ⟨(some (21, false), .loadN 22 3 (.t 3)), [], []⟩,
 ⟨(some (21, false), .loadN 23 3 (.t 4)), [], []⟩,
 ⟨(some (21, false), .load1 25 (.t 2)), [], []⟩,
 ⟨(some (21, false), .call (some 24) F.impl_box_near [(.t 22), (.t 23)]), [], [18]⟩,
 ⟨(some (21, false), .bin 26 .and (.t 24) (.t 25)), [], []⟩,
 ⟨(some (21, false), .bin 27 .neq (.t 26) (.c (.U 0))), [], []⟩,
 ⟨(some (17, true), .pick 28 (.t 21) (.c (.B true)) (.t 27)), [], []⟩,
 ⟨(none, .pick 29 (.t 17) (.t 28) (.c (.B false))), [], []⟩,
 ⟨(none, .mv 5 (.t 29)), [], []⟩])
 (.ret))⟩
end Go.Ab.C

/- That the program has this code. -/
namespace Go.Ab.K
open Go Go.Ab
theorem impl_LayingOrder : prepF Go.Proofs.Try.prog F.impl_LayingOrder = some C.impl_LayingOrder := by kernel_rfl
theorem impl_LayingOrder_1 : prepF Go.Proofs.Try.prog F.impl_LayingOrder_1 = some C.impl_LayingOrder_1 := by kernel_rfl
end Go.Ab.K
