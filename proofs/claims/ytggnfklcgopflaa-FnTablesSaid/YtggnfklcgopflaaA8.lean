/- Parts of the proof of FnTablesSaid: C_Cn K_Cn C_Cm K_Cm C_Cl K_Cl C_Ce K_Ce C_Cd K_Cd Ca C_Zh K_Zh C_Zg K_Zg C_Ze K_Ze C_Zd K_Zd C_Zc K_Zc C_Zb K_Zb C_Za K_Za Za C_Yh K_Yh C_Yf K_Yf Yf C_Gf K_Gf C_Gc K_Gc Gc Gf Yg Yh Zb C_Yi K_Yi Yi Zc Zd Ze Zf Zg Zh Zi C_Bk K_Bk C_Bh K_Bh C_Ej K_Ej C_Ed2 K_Ed2 C_Ec2 K_Ec2 C_Eg K_Eg C_Ef K_Ef C_Ee K_Ee C_Ed K_Ed C_Ec K_Ec C_Eb3 K_Eb3 C_Eb2 K_Eb2 Eb2 Eb3 Mb Mc Md Ec Ed Ee Ef C_Dh K_Dh C_Dg K_Dg C_Df K_Df Df Dg Dh Eg Me Mf Ec2 Ed2 Mh Ej Mg Mi Bg C_Bb K_Bb Bb Bh C_El K_El C_Ek K_Ek Ek El Bk C_Kb K_Kb C_Ol K_Ol C_Og K_Og C_Of K_Of Of Og Oi Ol C_Oj K_Oj Oj Bt Xa Ka C_Xb K_Xb C_Bw K_Bw C_Bv K_Bv C_Bu K_Bu C_Je K_Je C_Jb K_Jb C_Ja K_Ja Ja Jb Jc Je Bu Bv Bw Jf Xb Kb. -/
import Derived.Test.YtggnfklcgopflaaA3
import Derived.Test.YtggnfklcgopflaaA4
import Derived.Test.YtggnfklcgopflaaProg
import Derived.KernelRfl
import Derived.Test.YtggnfklcgopflaaA6
import Derived.Test.YtggnfklcgopflaaA7
import Derived.Test.YtggnfklcgopflaaA5
import Derived.Laws.Bits64
set_option linter.all false
/- The abstract code of some functions (written by a program of mine from the translation, by way of prepF). -/
namespace Go.Ab.C
open Go.Ab
def impl_FirstTable : AFn :=
 ⟨2, 56, [.tmp 4, .tmp 5],
 .seq (.ops [(none, .mv 4 (.c .nil)),
 (none, .mv 5 (.c (.B false)))])
 (.seq (.seq (.ops [(none, .mv 12 (.t 0)),
 (none, .mv 13 (.t 1)),
 (none, .call (some 14) F.impl_areSums [(.t 12), (.t 13)]),
 (none, .un 15 .not (.t 14))])
 (.cond (.t 15) (.seq (.ops [(none, .mv 4 (.c .nil)),
 (none, .mv 5 (.c (.B false)))])
 (.ret))
 (.skip)))
 (.seq (.ops [(none, .mv 17 (.t 0)),
 (none, .mv 18 (.t 1)),
 (none, .call (some 19) F.impl_firstTable [(.t 17), (.t 18)]),
 (none, .mv 16 (.t 19)),
 (none, .extract 20 (.t 16) 0),
 (none, .extract 21 (.t 16) 1),
 (none, .mv 6 (.t 20)),
 (none, .mv 7 (.t 21))])
 (.seq (.seq (.ops [(none, .mv 22 (.t 7)),
 (none, .un 23 .not (.t 22))])
 (.cond (.t 23) (.seq (.ops [(none, .mv 4 (.c .nil)),
 (none, .mv 5 (.c (.B false)))])
 (.ret))
 (.skip)))
 (.seq (.ops [(none, .buildSl 24 0 1 [] []),
 (none, .mv 8 (.t 24))])
 (.seq (.seq (.ops [(none, .mv 25 (.t 0)),
 (none, .len 26 (.t 25)),
 (none, .mv 27 (.c (.I 0)))])
 (.block 0 (.loop (.seq (.ops [(none, .bin 28 .lss (.t 27) (.t 26))])
 (.seq (.cond (.t 28) (.skip)
 (.exit 0))
 (.seq (.block 1 (.seq (.ops [(none, .mv 29 (.t 27)),
 (none, .mv 9 (.t 29))])
 (.seq (.ops [(none, .buildSl 30 0 1 [] []),
 (none, .mv 10 (.t 30))])
 (.seq (.seq (.ops [(none, .mv 31 (.t 1)),
 (none, .len 32 (.t 31)),
 (none, .mv 33 (.c (.I 0)))])
 (.block 2 (.loop (.seq (.ops [(none, .bin 34 .lss (.t 33) (.t 32))])
 (.seq (.cond (.t 34) (.skip)
 (.exit 2))
 (.seq (.block 3 (.seq (.ops [(none, .mv 35 (.t 33)),
 (none, .mv 11 (.t 35))])
 (.ops [(none, .mv 36 (.t 10)),
 (none, .mv 37 (.t 6)),
 (none, .mv 38 (.t 9)),
 (none, .mv 39 (.t 1)),
 (none, .len 40 (.t 39)),
 (none, .bin 41 .mul (.t 38) (.t 40)),
 (none, .mv 42 (.t 11)),
 (none, .bin 43 .add (.t 41) (.t 42)),
 (none, .bin 44 .shr (.t 37) (.t 43)),
 (none, .bin 45 .and (.t 44) (.c (.U 1))),
 (none, .conv 46 .i64 (.t 45)),
 (none, .buildSl 47 1 1 [(.I 0)] [(0, 1, (.t 46))]),
 (none, .append 48 1 8 (.t 36) (.t 47)),
 (none, .mv 10 (.t 48))])))
 (.ops [(none, .bin 49 .add (.t 33) (.c (.I 1))),
 (none, .mv 33 (.t 49))])))))))
 (.ops [(none, .mv 50 (.t 8)),
 (none, .mv 51 (.t 10)),
 (none, .buildSl 52 1 1 [.nil] [(0, 1, (.t 51))]),
 (none, .append 53 1 24 (.t 50) (.t 52)),
 (none, .mv 8 (.t 53))])))))
 (.ops [(none, .bin 54 .add (.t 27) (.c (.I 1))),
 (none, .mv 27 (.t 54))])))))))
 (.seq (.ops [(none, .mv 55 (.t 8)),
 (none, .mv 4 (.t 55)),
 (none, .mv 5 (.c (.B true)))])
 (.ret)))))))⟩
def spec_FirstTable : AFn :=
 ⟨2, 41, [.tmp 4, .tmp 5],
 .seq (.ops [(none, .mv 4 (.c .nil)),
 (none, .mv 5 (.c (.B false)))])
 (.seq (.seq (.ops [(none, .mv 9 (.t 0)),
 (none, .mv 10 (.t 1)),
 (none, .call (some 11) F.spec_l4Lists [(.t 9), (.t 10)]),
 (none, .un 12 .not (.t 11))])
 (.cond (.t 12) (.seq (.ops [(none, .buildSl 13 0 1 [] []),
 (none, .mv 4 (.t 13)),
 (none, .mv 5 (.c (.B false)))])
 (.ret))
 (.skip)))
 (.seq (.ops [(none, .mv 14 (.t 0)),
 (none, .mv 15 (.t 1)),
 (none, .call (some 16) F.spec_l4Tables [(.t 14), (.t 15)]),
 (none, .mv 6 (.t 16))])
 (.seq (.seq (.ops [(none, .mv 17 (.t 6)),
 (none, .len 18 (.t 17)),
 (none, .bin 19 .eql (.t 18) (.c (.I 0)))])
 (.cond (.t 19) (.seq (.ops [(none, .buildSl 20 0 1 [] []),
 (none, .mv 4 (.t 20)),
 (none, .mv 5 (.c (.B false)))])
 (.ret))
 (.skip)))
 (.seq (.ops [(none, .buildSl 21 0 1 [] []),
 (none, .mv 7 (.t 21))])
 (.seq (.seq (.ops [(none, .mv 8 (.c (.I 0)))])
 (.block 0 (.loop (.seq (.seq (.ops [(none, .mv 22 (.t 8)),
 (none, .mv 23 (.t 6)),
 (none, .idxS 24 1 (.t 23) (.c (.I 0))),
 (none, .load1 25 (.t 24)),
 (none, .len 26 (.t 25)),
 (none, .bin 27 .lss (.t 22) (.t 26))])
 (.cond (.t 27) (.skip)
 (.exit 0)))
 (.seq (.block 1 (.ops [(none, .mv 30 (.t 7)),
 (none, .mv 31 (.t 6)),
 (none, .idxS 32 1 (.t 31) (.c (.I 0))),
 (none, .load1 33 (.t 32)),
 (none, .mv 34 (.t 8)),
 (none, .idxS 35 1 (.t 33) (.t 34)),
 (none, .load1 36 (.t 35)),
 (none, .call (some 37) F.spec_l1Own [(.t 36)]),
 (none, .buildSl 38 1 1 [.nil] [(0, 1, (.t 37))]),
 (none, .append 39 1 24 (.t 30) (.t 38)),
 (none, .mv 7 (.t 39))]))
 (.ops [(none, .mv 28 (.t 8)),
 (none, .bin 29 .add (.t 28) (.c (.I 1))),
 (none, .mv 8 (.t 29))]))))))
 (.seq (.ops [(none, .mv 40 (.t 7)),
 (none, .mv 4 (.t 40)),
 (none, .mv 5 (.c (.B true)))])
 (.ret)))))))⟩
end Go.Ab.C

/- That the program has this code. -/
namespace Go.Ab.K
open Go Go.Ab
theorem impl_FirstTable : prepF Go.Proofs.Try.prog F.impl_FirstTable = some C.impl_FirstTable := by kernel_rfl
theorem spec_FirstTable : prepF Go.Proofs.Try.prog F.spec_FirstTable = some C.spec_FirstTable := by kernel_rfl
end Go.Ab.K

/- The abstract code of some functions (written by a program of mine from the translation, by way of prepF). -/
namespace Go.Ab.C
open Go.Ab
def impl_countTables : AFn :=
 ⟨2, 11, [.tmp 4],
 .seq (.ops [(none, .mv 4 (.c (.I 0)))])
 (.seq (.ops [(none, .alloc 5 [(.I 0)]),
 (none, .store 1 (.t 5) (.c (.I 0)))])
 (.seq (.ops [(none, .mv 6 (.t 0)),
 (none, .mv 7 (.t 1)),
 (none, .mkf 8 F.impl_countTables_1 [(.t 5)]),
 (none, .call (some 9) F.impl_tables [(.t 6), (.t 7), (.t 8)])])
 (.seq (.ops [(none, .load1 10 (.t 5)),
 (none, .mv 4 (.t 10))])
 (.ret))))⟩
def impl_countTables_1 : AFn :=
 ⟨2, 6, [.tmp 3],
 .seq (.ops [(none, .mv 3 (.c (.B false)))])
 (.seq (.ops [(none, .load1 4 (.t 1)),
 (none, .bin 5 .add (.t 4) (.c (.I 1))),
 (none, .store 1 (.t 1) (.t 5))])
 (.seq (.ops [(none, .mv 3 (.c (.B true)))])
 (.ret)))⟩
def impl_CountTables : AFn :=
 ⟨2, 13, [.tmp 4, .tmp 5],
 .seq (.ops [(none, .mv 4 (.c (.I 0))),
 (none, .mv 5 (.c (.B false)))])
 (.seq (.seq (.ops [(none, .mv 6 (.t 0)),
 (none, .mv 7 (.t 1)),
 (none, .call (some 8) F.impl_areSums [(.t 6), (.t 7)]),
 (none, .un 9 .not (.t 8))])
 (.cond (.t 9) (.seq (.ops [(none, .mv 4 (.c (.I 0))),
 (none, .mv 5 (.c (.B false)))])
 (.ret))
 (.skip)))
 (.seq (.ops [(none, .mv 10 (.t 0)),
 (none, .mv 11 (.t 1)),
 (none, .call (some 12) F.impl_countTables [(.t 10), (.t 11)]),
 (none, .mv 4 (.t 12)),
 (none, .mv 5 (.c (.B true)))])
 (.ret)))⟩
def impl_CanTable : AFn :=
 ⟨2, 19, [.tmp 4, .tmp 5],
 .seq (.ops [(none, .mv 4 (.c (.B false))),
 (none, .mv 5 (.c (.B false)))])
 (.seq (.seq (.ops [(none, .mv 8 (.t 0)),
 (none, .mv 9 (.t 1)),
 (none, .call (some 10) F.impl_areSums [(.t 8), (.t 9)]),
 (none, .un 11 .not (.t 10))])
 (.cond (.t 11) (.seq (.ops [(none, .mv 4 (.c (.B false))),
 (none, .mv 5 (.c (.B false)))])
 (.ret))
 (.skip)))
 (.seq (.ops [(none, .mv 13 (.t 0)),
 (none, .mv 14 (.t 1)),
 (none, .call (some 15) F.impl_firstTable [(.t 13), (.t 14)]),
 (none, .mv 12 (.t 15)),
 (none, .extract 16 (.t 12) 0),
 (none, .extract 17 (.t 12) 1),
 (none, .mv 6 (.t 16)),
 (none, .mv 7 (.t 17))])
 (.seq (.ops [(none, .mv 18 (.t 7)),
 (none, .mv 4 (.t 18)),
 (none, .mv 5 (.c (.B true)))])
 (.ret))))⟩
def spec_CountTables : AFn :=
 ⟨2, 14, [.tmp 4, .tmp 5],
 .seq (.ops [(none, .mv 4 (.c (.I 0))),
 (none, .mv 5 (.c (.B false)))])
 (.seq (.seq (.ops [(none, .mv 6 (.t 0)),
 (none, .mv 7 (.t 1)),
 (none, .call (some 8) F.spec_l4Lists [(.t 6), (.t 7)]),
 (none, .un 9 .not (.t 8))])
 (.cond (.t 9) (.seq (.ops [(none, .mv 4 (.c (.I 0))),
 (none, .mv 5 (.c (.B false)))])
 (.ret))
 (.skip)))
 (.seq (.ops [(none, .mv 10 (.t 0)),
 (none, .mv 11 (.t 1)),
 (none, .call (some 12) F.spec_l4Tables [(.t 10), (.t 11)]),
 (none, .len 13 (.t 12)),
 (none, .mv 4 (.t 13)),
 (none, .mv 5 (.c (.B true)))])
 (.ret)))⟩
def spec_CanTable : AFn :=
 ⟨2, 15, [.tmp 4, .tmp 5],
 .seq (.ops [(none, .mv 4 (.c (.B false))),
 (none, .mv 5 (.c (.B false)))])
 (.seq (.seq (.ops [(none, .mv 6 (.t 0)),
 (none, .mv 7 (.t 1)),
 (none, .call (some 8) F.spec_l4Lists [(.t 6), (.t 7)]),
 (none, .un 9 .not (.t 8))])
 (.cond (.t 9) (.seq (.ops [(none, .mv 4 (.c (.B false))),
 (none, .mv 5 (.c (.B false)))])
 (.ret))
 (.skip)))
 (.seq (.ops [(none, .mv 10 (.t 0)),
 (none, .mv 11 (.t 1)),
 (none, .call (some 12) F.spec_l4Tables [(.t 10), (.t 11)]),
 (none, .len 13 (.t 12)),
 (none, .bin 14 .gtr (.t 13) (.c (.I 0))),
 (none, .mv 4 (.t 14)),
 (none, .mv 5 (.c (.B true)))])
 (.ret)))⟩
end Go.Ab.C

/- That the program has this code. -/
namespace Go.Ab.K
open Go Go.Ab
theorem impl_countTables : prepF Go.Proofs.Try.prog F.impl_countTables = some C.impl_countTables := by kernel_rfl
theorem impl_countTables_1 : prepF Go.Proofs.Try.prog F.impl_countTables_1 = some C.impl_countTables_1 := by kernel_rfl
theorem impl_CountTables : prepF Go.Proofs.Try.prog F.impl_CountTables = some C.impl_CountTables := by kernel_rfl
theorem impl_CanTable : prepF Go.Proofs.Try.prog F.impl_CanTable = some C.impl_CanTable := by kernel_rfl
theorem spec_CountTables : prepF Go.Proofs.Try.prog F.spec_CountTables = some C.spec_CountTables := by kernel_rfl
theorem spec_CanTable : prepF Go.Proofs.Try.prog F.spec_CanTable = some C.spec_CanTable := by kernel_rfl
end Go.Ab.K

/- The abstract code of some functions (written by a program of mine from the translation, by way of prepF). -/
namespace Go.Ab.C
open Go.Ab
def impl_areSums : AFn :=
 ⟨2, 25, [.tmp 4],
 .seq (.ops [(none, .mv 4 (.c (.B false)))])
 (.seq (.ops [(none, .mv 5 (.t 0)),
 (none, .len 6 (.t 5)),
 (none, .call (some 7) F.impl_within [(.t 6), (.c (.I 1)), (.c (.I 4))]),
 (none, .mv 8 (.t 7)),
 (some (8, true), .mv 9 (.t 1)),
 (some (8, true), .len 10 (.t 9)),
 (some (8, true), .call (some 11) F.impl_within [(.t 10), (.c (.I 1)), (.c (.I 4))]),
 (none, .pick 12 (.t 8) (.t 11) (.c (.B false))),
 (none, .mv 13 (.t 12)),
 (some (13, true), .mv 14 (.t 0)),
 (some (13, true), .mv 15 (.t 1)),
 (some (13, true), .len 16 (.t 15)),
 (some (13, true), .call (some 17) F.impl_allWithin [(.t 14), (.c (.I 0)), (.t 16)]),
 (none, .pick 18 (.t 13) (.t 17) (.c (.B false))),
 (none, .mv 19 (.t 18)),
 (some (19, true), .mv 20 (.t 1)),
 (some (19, true), .mv 21 (.t 0)),
 (some (19, true), .len 22 (.t 21)),
 (some (19, true), .call (some 23) F.impl_allWithin [(.t 20), (.c (.I 0)), (.t 22)]),
 (none, .pick 24 (.t 19) (.t 23) (.c (.B false))),
 (none, .mv 4 (.t 24))])
 (.ret))⟩
def spec_l4Lists : AFn :=
 ⟨2, 45, [.tmp 4],
 .seq (.ops [(none, .mv 4 (.c (.B false)))])
 (.seq (.ops [(none, .mv 9 (.t 0)),
 (none, .len 10 (.t 9)),
 (none, .mv 11 (.t 1)),
 (none, .len 12 (.t 11)),
 (none, .mv 5 (.t 10)),
 (none, .mv 6 (.t 12))])
 (.seq (.seq (.ops [(none, .mv 13 (.t 5)),
 (none, .call (some 14) F.spec_l1In [(.t 13), (.c (.I 1)), (.c (.I 4))]),
 (none, .un 15 .not (.t 14)),
 (none, .mv 16 (.t 15)),
 (some (16, false), .mv 17 (.t 6)),
 (some (16, false), .call (some 18) F.spec_l1In [(.t 17), (.c (.I 1)), (.c (.I 4))]),
 (some (16, false), .un 19 .not (.t 18)),
 (none, .pick 20 (.t 16) (.c (.B true)) (.t 19))])
 (.cond (.t 20) (.seq (.ops [(none, .mv 4 (.c (.B false)))])
 (.ret))
 (.skip)))
 (.seq (.seq (.ops [(none, .mv 7 (.c (.I 0)))])
 (.block 0 (.loop (.seq (.seq (.ops [(none, .mv 21 (.t 7)),
 (none, .mv 22 (.t 5)),
 (none, .bin 23 .lss (.t 21) (.t 22))])
 (.cond (.t 23) (.skip)
 (.exit 0)))
 (.seq (.block 1 (.seq (.ops [(none, .mv 26 (.t 0)),
 (none, .mv 27 (.t 7)),
 (none, .idxS 28 1 (.t 26) (.t 27)),
 (none, .load1 29 (.t 28)),
 (none, .mv 30 (.t 6)),
 (none, .call (some 31) F.spec_l1In [(.t 29), (.c (.I 0)), (.t 30)]),
 (none, .un 32 .not (.t 31))])
 (.cond (.t 32) (.seq (.ops [(none, .mv 4 (.c (.B false)))])
 (.ret))
 (.skip))))
 (.ops [(none, .mv 24 (.t 7)),
 (none, .bin 25 .add (.t 24) (.c (.I 1))),
 (none, .mv 7 (.t 25))]))))))
 (.seq (.seq (.ops [(none, .mv 8 (.c (.I 0)))])
 (.block 2 (.loop (.seq (.seq (.ops [(none, .mv 33 (.t 8)),
 (none, .mv 34 (.t 6)),
 (none, .bin 35 .lss (.t 33) (.t 34))])
 (.cond (.t 35) (.skip)
 (.exit 2)))
 (.seq (.block 3 (.seq (.ops [(none, .mv 38 (.t 1)),
 (none, .mv 39 (.t 8)),
 (none, .idxS 40 1 (.t 38) (.t 39)),
 (none, .load1 41 (.t 40)),
 (none, .mv 42 (.t 5)),
 (none, .call (some 43) F.spec_l1In [(.t 41), (.c (.I 0)), (.t 42)]),
 (none, .un 44 .not (.t 43))])
 (.cond (.t 44) (.seq (.ops [(none, .mv 4 (.c (.B false)))])
 (.ret))
 (.skip))))
 (.ops [(none, .mv 36 (.t 8)),
 (none, .bin 37 .add (.t 36) (.c (.I 1))),
 (none, .mv 8 (.t 37))]))))))
 (.seq (.ops [(none, .mv 4 (.c (.B true)))])
 (.ret))))))⟩
end Go.Ab.C

/- That the program has this code. -/
namespace Go.Ab.K
open Go Go.Ab
theorem impl_areSums : prepF Go.Proofs.Try.prog F.impl_areSums = some C.impl_areSums := by kernel_rfl
theorem spec_l4Lists : prepF Go.Proofs.Try.prog F.spec_l4Lists = some C.spec_l4Lists := by kernel_rfl
end Go.Ab.K

/- The abstract code of some functions (written by a program of mine from the translation, by way of prepF). -/
namespace Go.Ab.C
open Go.Ab
def impl_tables : AFn :=
 ⟨3, 16, [],
 .seq (.ops [(none, .box 3 (.t 0)),
 (none, .box 5 (.t 2))])
 (.seq (.ops [(none, .mv 9 (.t 1)),
 (none, .len 10 (.t 9)),
 (none, .mv 11 (.t 1)),
 (none, .call (some 12) F.slices_Clone_Sint_int [(.t 11)]),
 (none, .alloc 6 [(.I 0)]),
 (none, .alloc 7 [.nil]),
 (none, .store 1 (.t 6) (.t 10)),
 (none, .store 1 (.t 7) (.t 12))])
 (.seq (.ops [(none, .alloc 8 [(.val .nilFunc)])])
 (.seq (.ops [(none, .mkf 13 F.impl_tables_1 [(.t 6), (.t 3), (.t 7), (.t 5), (.t 8)]),
 (none, .store 1 (.t 8) (.t 13))])
 (.ops [(none, .load1 14 (.t 8)),
 (none, .callV (some 15) (.t 14) [(.c (.I 0)), (.c (.I 0)), (.c (.U 0))])]))))⟩
def impl_firstTable : AFn :=
 ⟨2, 14, [.tmp 4, .tmp 5],
 .seq (.ops [(none, .mv 4 (.c (.U 0))),
 (none, .mv 5 (.c (.B false)))])
 (.seq (.ops [(none, .alloc 6 [(.U 0)]),
 (none, .alloc 7 [(.B false)]),
 (none, .store 1 (.t 6) (.c (.U 0))),
 (none, .store 1 (.t 7) (.c (.B false)))])
 (.seq (.ops [(none, .mv 8 (.t 0)),
 (none, .mv 9 (.t 1)),
 (none, .mkf 10 F.impl_firstTable_1 [(.t 6), (.t 7)]),
 (none, .call (some 11) F.impl_tables [(.t 8), (.t 9), (.t 10)])])
 (.seq (.draw [⟨(none, .load1 12 (.t 6)), [], []⟩,
 ⟨(none, .load1 13 (.t 7)), [], []⟩,
 ⟨(none, .mv 4 (.t 12)), [], []⟩,
 ⟨(none, .mv 5 (.t 13)), [], []⟩])
 (.ret))))⟩
def impl_firstTable_1 : AFn :=
 ⟨3, 6, [.tmp 4],
 .seq (.ops [(none, .mv 4 (.c (.B false)))])
 (.seq (.ops [(none, .mv 5 (.t 0)),
 (none, .store 1 (.t 1) (.t 5)),
 (none, .store 1 (.t 2) (.c (.B true)))])
 (.seq (.ops [(none, .mv 4 (.c (.B false)))])
 (.ret)))⟩
end Go.Ab.C

/- That the program has this code. -/
namespace Go.Ab.K
open Go Go.Ab
theorem impl_tables : prepF Go.Proofs.Try.prog F.impl_tables = some C.impl_tables := by kernel_rfl
theorem impl_firstTable : prepF Go.Proofs.Try.prog F.impl_firstTable = some C.impl_firstTable := by kernel_rfl
theorem impl_firstTable_1 : prepF Go.Proofs.Try.prog F.impl_firstTable_1 = some C.impl_firstTable_1 := by kernel_rfl
end Go.Ab.K

/- The abstract code of some functions (written by a program of mine from the translation, by way of prepF). -/
namespace Go.Ab.C
open Go.Ab
def impl_tables_1 : AFn :=
 ⟨8, 84, [.tmp 11],
 .seq (.ops [(none, .mv 11 (.c (.B false)))])
 (.seq (.seq (.ops [(none, .mv 13 (.t 0)),
 (none, .load1 14 (.t 3)),
 (none, .bin 15 .rem (.t 13) (.t 14)),
 (none, .bin 16 .eql (.t 15) (.c (.I 0)))])
 (.cond (.t 16) (.seq (.seq (.ops [(none, .mv 17 (.t 1)),
 (none, .bin 18 .gtr (.t 17) (.c (.I 0)))])
 (.cond (.t 18) (.seq (.ops [(none, .mv 11 (.c (.B true)))])
 (.ret))
 (.skip)))
 (.seq (.seq (.ops [(none, .mv 19 (.t 0)),
 (none, .load1 20 (.t 4)),
 (none, .len 21 (.t 20)),
 (none, .load1 22 (.t 3)),
 (none, .bin 23 .mul (.t 21) (.t 22)),
 (none, .bin 24 .eql (.t 19) (.t 23))])
 (.cond (.t 24) (.seq (.ops [(none, .load1 25 (.t 5)),
 (none, .call (some 26) F.slices_Max_Sint_int [(.t 25)]),
 (none, .bin 27 .gtr (.t 26) (.c (.I 0))),
 (none, .mv 28 (.t 27)),
 (some (28, false), .load1 29 (.t 6)),
 (some (28, false), .mv 30 (.t 2)),
 (some (28, false), .callV (some 31) (.t 29) [(.t 30)]),
 (none, .pick 32 (.t 28) (.c (.B true)) (.t 31)),
 (none, .mv 11 (.t 32))])
 (.ret))
 (.skip)))
 (.draw [⟨(none, .load1 33 (.t 4)), [], []⟩,
 ⟨(none, .mv 34 (.t 0)), [], []⟩,
 ⟨(none, .load1 35 (.t 3)), [], []⟩,
 ⟨(none, .bin 36 .quo (.t 34) (.t 35)), [], []⟩,
 ⟨(none, .idxS 37 1 (.t 33) (.t 36)), [], []⟩,
 ⟨(none, .load1 38 (.t 37)), [], []⟩,
 ⟨(none, .mv 1 (.t 38)), [], []⟩])))
 (.skip)))
 (.seq (.seq (.ops [(none, .load1 39 (.t 7)),
 (none, .mv 40 (.t 0)),
 (none, .bin 41 .add (.t 40) (.c (.I 1))),
 (none, .mv 42 (.t 1)),
 (none, .mv 43 (.t 2)),
 (none, .callV (some 44) (.t 39) [(.t 41), (.t 42), (.t 43)]),
 (none, .un 45 .not (.t 44))])
 (.cond (.t 45) (.seq (.ops [(none, .mv 11 (.c (.B false)))])
 (.ret))
 (.skip)))
 (.seq (.seq (.draw [⟨(none, .mv 46 (.t 1)), [], []⟩,
 ⟨(none, .bin 47 .eql (.t 46) (.c (.I 0))), [], []⟩,
 ⟨(none, .mv 48 (.t 47)), [], []⟩,
 ⟨(some (48, false), .load1 49 (.t 5)), [], []⟩,
 ⟨(some (48, false), .mv 50 (.t 0)), [], []⟩,
 ⟨(some (48, false), .load1 51 (.t 3)), [], []⟩,
 ⟨(some (48, false), .bin 52 .rem (.t 50) (.t 51)), [], []⟩,
 ⟨(some (48, false), .idxS 53 1 (.t 49) (.t 52)), [], []⟩,
 ⟨(some (48, false), .load1 54 (.t 53)), [], []⟩,
 ⟨(some (48, false), .bin 55 .eql (.t 54) (.c (.I 0))), [], []⟩,
 ⟨(none, .pick 56 (.t 48) (.c (.B true)) (.t 55)), [], []⟩])
 (.cond (.t 56) (.seq (.ops [(none, .mv 11 (.c (.B true)))])
 (.ret))
 (.skip)))
 (.seq (.draw [⟨(none, .load1 57 (.t 5)), [], []⟩,
 ⟨(none, .mv 58 (.t 0)), [], []⟩,
 ⟨(none, .load1 59 (.t 3)), [], []⟩,
 ⟨(none, .bin 60 .rem (.t 58) (.t 59)), [], []⟩,
 ⟨(none, .idxS 61 1 (.t 57) (.t 60)), [], []⟩,
 ⟨(none, .load1 62 (.t 61)), [], []⟩,
 ⟨(none, .bin 63 .sub (.t 62) (.c (.I 1))), [], []⟩,
 ⟨(none, .idxS 64 1 (.t 57) (.t 60)), [], []⟩,
 ⟨(none, .store 1 (.t 64) (.t 63)), [], []⟩])
 (.seq (.draw [⟨(none, .load1 65 (.t 7)), [], []⟩,
 ⟨(none, .mv 66 (.t 0)), [], []⟩,
 ⟨(none, .bin 67 .add (.t 66) (.c (.I 1))), [], []⟩,
 ⟨(none, .mv 68 (.t 1)), [], []⟩,
 ⟨(none, .bin 69 .sub (.t 68) (.c (.I 1))), [], []⟩,
 ⟨(none, .mv 70 (.t 2)), [], []⟩,
 ⟨(none, .mv 71 (.t 0)), [], []⟩,
 ⟨(none, .bin 72 .shl (.c (.U 1)) (.t 71)), [], []⟩,
 ⟨(none, .bin 73 .or (.t 70) (.t 72)), [], []⟩,
 ⟨(none, .callV (some 74) (.t 65) [(.t 67), (.t 69), (.t 73)]), [], []⟩,
 ⟨(none, .mv 12 (.t 74)), [], []⟩])
 (.seq (.draw [⟨(none, .load1 75 (.t 5)), [], []⟩,
 ⟨(none, .mv 76 (.t 0)), [], []⟩,
 ⟨(none, .load1 77 (.t 3)), [], []⟩,
 ⟨(none, .bin 78 .rem (.t 76) (.t 77)), [], []⟩,
 ⟨(none, .idxS 79 1 (.t 75) (.t 78)), [], []⟩,
 ⟨(none, .load1 80 (.t 79)), [], []⟩,
 ⟨(none, .bin 81 .add (.t 80) (.c (.I 1))), [], []⟩,
 ⟨(none, .idxS 82 1 (.t 75) (.t 78)), [], []⟩,
 ⟨(none, .store 1 (.t 82) (.t 81)), [], []⟩])
 (.seq (.ops [(none, .mv 83 (.t 12)),
 (none, .mv 11 (.t 83))])
 (.ret))))))))⟩
end Go.Ab.C

/- That the program has this code. -/
namespace Go.Ab.K
open Go Go.Ab
theorem impl_tables_1 : prepF Go.Proofs.Try.prog F.impl_tables_1 = some C.impl_tables_1 := by kernel_rfl
end Go.Ab.K

/- Plain words: rows and tables of numbers 0 and 1 with given sums; cell by cell and row by row. -/
namespace Go.Ab
open Go
set_option linter.unusedSimpArgs false
set_option linter.unusedVariables false

/-- All rows of n numbers 0 and 1 with a sum, in order. -/
def rowsL : Nat → Int → List (List Int)
  | 0, s => if s = 0 then [[]] else []
  | n + 1, s => (if 0 ≤ s then (rowsL n s).map (0 :: ·) else []) ++ if 1 ≤ s then (rowsL n (s - 1)).map (1 :: ·) else []
theorem rowsL_succ {n : Nat} {s : Int} : rowsL (n + 1) s = (if 0 ≤ s then (rowsL n s).map (0 :: ·) else []) ++ if 1 ≤ s then (rowsL n (s - 1)).map (1 :: ·) else [] := rfl
def okR (B row : List Int) : Bool := (List.zipWith (fun b a => b - a) B row).all fun v => decide (0 ≤ v)
def subR (B row : List Int) : List Int := List.zipWith (fun b a => b - a) B row
/-- All tables with some sums, in order. -/
def tabsL : List Int → List Int → List (List (List Int))
  | [], cols => if cols.all (fun v => decide (v = 0)) then [[]] else []
  | r :: rs, cols => (rowsL cols.length r).flatMap fun row => if okR cols row then (tabsL rs (subR cols row)).map (row :: ·) else []
/-- The same cell by cell: k cells are left in a row that lacks s. -/
def fillK (n : Nat) (rs : List Int) (k : Nat) (s : Int) (left : List Int) : List (List Int) :=
  match rs, k with
  | rs, k + 1 => (fillK n rs k s left).map (0 :: ·) ++ if s = 0 ∨ left.getD (n - (k + 1)) 0 = 0 then [] else (fillK n rs k (s - 1) (left.set (n - (k + 1)) (left.getD (n - (k + 1)) 0 - 1))).map (1 :: ·)
  | [], 0 => if 0 < s then [] else if left.all (fun v => decide (v ≤ 0)) then [[]] else []
  | r :: rs, 0 => if 0 < s then [] else fillK n rs n r left
termination_by (rs.length, k)
theorem fillK_end {n : Nat} {s : Int} {left : List Int} : fillK n [] 0 s left = if 0 < s then [] else if left.all (fun v => decide (v ≤ 0)) then [[]] else [] := by rw [fillK]
theorem fillK_row {n : Nat} {r s : Int} {rs left : List Int} : fillK n (r :: rs) 0 s left = if 0 < s then [] else fillK n rs n r left := by rw [fillK]
theorem fillK_cell {n k : Nat} {s : Int} {rs left : List Int} : fillK n rs (k + 1) s left = (fillK n rs k s left).map (0 :: ·) ++ if s = 0 ∨ left.getD (n - (k + 1)) 0 = 0 then [] else (fillK n rs k (s - 1) (left.set (n - (k + 1)) (left.getD (n - (k + 1)) 0 - 1))).map (1 :: ·) := by
  cases rs <;> rw [fillK]
theorem rowsL_len : ∀ {n : Nat} {s : Int} {r : List Int}, r ∈ rowsL n s → r.length = n
  | 0, s, r, h => by
    unfold rowsL at h
    split at h
    · simp at h; rw [h]; rfl
    · simp at h
  | n + 1, s, r, h => by
    unfold rowsL at h
    rcases List.mem_append.1 h with h | h
    · split at h
      · obtain ⟨r', h1, rfl⟩ := List.mem_map.1 h
        simp [rowsL_len h1]
      · simp at h
    · split at h
      · obtain ⟨r', h1, rfl⟩ := List.mem_map.1 h
        simp [rowsL_len h1]
      · simp at h
theorem rowsL_count : ∀ {n : Nat} {s : Int}, (rowsL n s).length ≤ 2 ^ n
  | 0, s => by unfold rowsL; split <;> simp
  | n + 1, s => by
    unfold rowsL
    rw [List.length_append, Nat.pow_succ]
    have h1 := rowsL_count (n := n) (s := s)
    have h2 := rowsL_count (n := n) (s := s - 1)
    split <;> split <;> simp <;> omega
theorem rowsL_bit : ∀ {n : Nat} {s : Int} {r : List Int}, r ∈ rowsL n s → ∀ a ∈ r, a = 0 ∨ a = 1
  | 0, s, r, h => by
    unfold rowsL at h
    split at h
    · simp at h; rw [h]; simp
    · simp at h
  | n + 1, s, r, h => by
    unfold rowsL at h
    rcases List.mem_append.1 h with h | h
    · split at h
      · obtain ⟨r', h1, rfl⟩ := List.mem_map.1 h
        intro a ha
        rcases List.mem_cons.1 ha with rfl | ha
        · exact .inl rfl
        · exact rowsL_bit h1 a ha
      · simp at h
    · split at h
      · obtain ⟨r', h1, rfl⟩ := List.mem_map.1 h
        intro a ha
        rcases List.mem_cons.1 ha with rfl | ha
        · exact .inr rfl
        · exact rowsL_bit h1 a ha
      · simp at h
theorem subR_len {B row : List Int} (h : row.length = B.length) : (subR B row).length = B.length := by simp [subR, h]
/-- One row, cell by cell. -/
theorem fill_row {n : Nat} {rs : List Int} : ∀ {k : Nat} {s : Int} {A B : List Int}, 0 ≤ s → A.length + k = n → B.length = k → (∀ b ∈ B, 0 ≤ b) →
    fillK n rs k s (A ++ B) = (rowsL k s).flatMap fun row => if okR B row then (fillK n rs 0 0 (A ++ subR B row)).map (row ++ ·) else []
  | 0, s, A, B, hs, hA, hB, _ => by
    have : B = [] := List.eq_nil_of_length_eq_zero hB
    subst this
    unfold rowsL
    by_cases h0 : s = 0
    · subst h0
      simp [okR, subR]
    · rw [if_neg h0]
      cases rs with
      | nil => rw [fillK_end, if_pos (by omega)]; rfl
      | cons r rs => rw [fillK_row, if_pos (by omega)]; rfl
  | k + 1, s, A, B, hs, hA, hB, hb => by
    cases B with
    | nil => simp at hB
    | cons b B =>
      have hB' : B.length = k := by simpa using hB
      have hb0 := hb b (by simp)
      have hbt : ∀ c ∈ B, 0 ≤ c := fun c hc => hb c (by simp [hc])
      have e1 : A ++ b :: B = (A ++ [b]) ++ B := by simp
      have hix : n - (k + 1) = A.length := by omega
      have hget : (A ++ b :: B).getD A.length 0 = b := by
        simp only [List.getD_eq_getElem?_getD]; rw [List.getElem?_append_right (Nat.le_refl _)]; simp
      have hset : ∀ v, (A ++ b :: B).set A.length v = (A ++ [v]) ++ B := fun v => by
        rw [List.set_append_right (h := Nat.le_refl _)]; simp
      rw [fillK_cell, hix, hget, hset]
      unfold rowsL
      rw [if_pos hs, List.flatMap_append]
      congr 1
      · rw [e1, fill_row hs (by simp; omega) hB' hbt, List.flatMap_map, List.map_flatMap]
        congr 1
        funext row
        have : okR (b :: B) (0 :: row) = okR B row := by simp [okR, hb0]
        rw [this]
        split
        · rw [List.map_map]
          have : subR (b :: B) (0 :: row) = b :: subR B row := by simp [subR]
          rw [this, show A ++ b :: subR B row = (A ++ [b]) ++ subR B row by simp]
          rfl
        · rfl
      · by_cases h1 : 1 ≤ s
        · rw [if_pos h1, List.flatMap_map]
          by_cases hbz : b = 0
          · rw [if_pos (.inr hbz)]
            symm
            rw [List.flatMap_eq_nil_iff]
            intro row _
            have : okR (b :: B) (1 :: row) = false := by simp [okR, hbz]
            rw [this]; rfl
          · rw [if_neg (by omega), fill_row (by omega) (by simp; omega) hB' hbt, List.map_flatMap]
            congr 1
            funext row
            have : okR (b :: B) (1 :: row) = okR B row := by
              simp only [okR, List.zipWith_cons_cons, List.all_cons]
              rw [decide_eq_true (by omega), Bool.true_and]
            rw [this]
            split
            · rw [List.map_map]
              have : subR (b :: B) (1 :: row) = (b - 1) :: subR B row := by simp [subR]
              rw [this, show A ++ (b - 1) :: subR B row = (A ++ [b - 1]) ++ subR B row by simp]
              rfl
            · rfl
        · rw [if_neg h1, if_pos (.inl (by omega))]; rfl
theorem okR_nonneg {B row : List Int} (h : okR B row = true) : ∀ b ∈ subR B row, 0 ≤ b := by
  unfold okR at h
  rw [List.all_eq_true] at h
  intro b hb
  exact of_decide_eq_true (h b hb)
theorem flat_congr {α β : Type} {f g : α → List β} : ∀ {l : List α}, (∀ a ∈ l, f a = g a) → l.flatMap f = l.flatMap g
  | [], _ => rfl
  | a :: l, h => by rw [List.flatMap_cons, List.flatMap_cons, h a (by simp), flat_congr fun b hb => h b (by simp [hb])]
/-- All tables, cell by cell. -/
theorem fill_tabs {n : Nat} : ∀ {rs cols : List Int}, cols.length = n → (∀ b ∈ cols, 0 ≤ b) → (∀ r ∈ rs, 0 ≤ r) → fillK n rs 0 0 cols = (tabsL rs cols).map List.flatten
  | [], cols, hn, hc, _ => by
    rw [fillK_end, if_neg (by omega)]
    unfold tabsL
    have : cols.all (fun v => decide (v ≤ 0)) = cols.all (fun v => decide (v = 0)) := by
      rw [Bool.eq_iff_iff, List.all_eq_true, List.all_eq_true]
      constructor
      · intro h v hv; have := of_decide_eq_true (h v hv); have := hc v hv; exact decide_eq_true (by omega)
      · intro h v hv; have := of_decide_eq_true (h v hv); exact decide_eq_true (by omega)
    rw [this]
    split <;> simp
  | r :: rs, cols, hn, hc, hr => by
    rw [fillK_row, if_neg (by omega)]
    have := fill_row (n := n) (rs := rs) (k := n) (s := r) (A := []) (B := cols) (hr r (by simp)) (by simp) hn hc
    rw [List.nil_append] at this
    rw [this]
    unfold tabsL
    rw [hn, List.map_flatMap]
    refine flat_congr fun row hrow => ?_
    split
    · rename_i hok
      rw [List.nil_append, fill_tabs (by rw [subR_len (by rw [rowsL_len hrow, hn]), hn]) (okR_nonneg hok) fun a ha => hr a (by simp [ha]), List.map_map, List.map_map]
      rfl
    · rfl
theorem tabsL_count {n : Nat} : ∀ {rs cols : List Int}, cols.length = n → (tabsL rs cols).length ≤ (2 ^ n) ^ rs.length
  | [], cols, _ => by unfold tabsL; split <;> simp
  | r :: rs, cols, hn => by
    unfold tabsL
    rw [List.length_flatMap]
    have h1 : ∀ l : List (List Int), (∀ row ∈ l, row.length = n) → (l.map fun row => (if okR cols row then (tabsL rs (subR cols row)).map (row :: ·) else []).length).sum ≤ l.length * (2 ^ n) ^ rs.length := by
      intro l hl
      induction l with
      | nil => simp
      | cons row l ih =>
        have h2 := ih fun r hr => hl r (by simp [hr])
        have h3 : (if okR cols row then (tabsL rs (subR cols row)).map (row :: ·) else []).length ≤ (2 ^ n) ^ rs.length := by
          split
          · rw [List.length_map]; exact tabsL_count (by rw [subR_len (by rw [hl row (by simp), hn]), hn])
          · simp
        simp only [List.map_cons, List.sum_cons, List.length_cons, Nat.add_mul, Nat.one_mul]
        omega
    refine Nat.le_trans (h1 _ fun row h => by rw [rowsL_len h, hn]) ?_
    rw [List.length_cons, Nat.pow_succ, Nat.mul_comm, hn]
    exact Nat.mul_le_mul_left _ rowsL_count
theorem tabsL_mem {n : Nat} : ∀ {rs cols : List Int} {T : List (List Int)}, cols.length = n → T ∈ tabsL rs cols → T.length = rs.length ∧ ∀ row ∈ T, row.length = n ∧ ∀ a ∈ row, a = 0 ∨ a = 1
  | [], cols, T, _, h => by
    unfold tabsL at h
    split at h
    · rw [List.mem_singleton.1 h]; simp
    · simp at h
  | r :: rs, cols, T, hn, h => by
    unfold tabsL at h
    obtain ⟨row, h1, h2⟩ := List.mem_flatMap.1 h
    split at h2
    · obtain ⟨T', h3, rfl⟩ := List.mem_map.1 h2
      have hl := rowsL_len h1
      have := tabsL_mem (by rw [subR_len hl, hn]) h3
      refine ⟨by simp [this.1], fun q hq => ?_⟩
      rcases List.mem_cons.1 hq with rfl | hq
      · exact ⟨by rw [hl, hn], rowsL_bit h1⟩
      · exact this.2 q hq
    · simp at h2
end Go.Ab

/- The abstract code of some functions (written by a program of mine from the translation, by way of prepF). -/
namespace Go.Ab.C
open Go.Ab
end Go.Ab.C

/- That the program has this code. -/
namespace Go.Ab.K
open Go Go.Ab
end Go.Ab.K

/- The abstract code of some functions (written by a program of mine from the translation, by way of prepF). -/
namespace Go.Ab.C
open Go.Ab
end Go.Ab.C

/- That the program has this code. -/
namespace Go.Ab.K
open Go Go.Ab
end Go.Ab.K

/- The abstract code of some functions (written by a program of mine from the translation, by way of prepF). -/
namespace Go.Ab.C
open Go.Ab
end Go.Ab.C

/- That the program has this code. -/
namespace Go.Ab.K
open Go Go.Ab
end Go.Ab.K

/- The abstract code of some functions (written by a program of mine from the translation, by way of prepF). -/
namespace Go.Ab.C
open Go.Ab
end Go.Ab.C

/- That the program has this code. -/
namespace Go.Ab.K
open Go Go.Ab
end Go.Ab.K

/- The abstract code of some functions (written by a program of mine from the translation, by way of prepF). -/
namespace Go.Ab.C
open Go.Ab
end Go.Ab.C

/- That the program has this code. -/
namespace Go.Ab.K
open Go Go.Ab
end Go.Ab.K

/- The abstract code of some functions (written by a program of mine from the translation, by way of prepF). -/
namespace Go.Ab.C
open Go.Ab
end Go.Ab.C

/- That the program has this code. -/
namespace Go.Ab.K
open Go Go.Ab
end Go.Ab.K

/- The abstract code of some functions (written by a program of mine from the translation, by way of prepF). -/
namespace Go.Ab.C
open Go.Ab
end Go.Ab.C

/- That the program has this code. -/
namespace Go.Ab.K
open Go Go.Ab
end Go.Ab.K

/- Contracts: the laws' helpers on lists of pairs of numbers. -/
namespace Go.Ab
open Go
set_option linter.unusedSimpArgs false
set_option linter.unusedVariables false
set_option maxRecDepth 20000

/-- A list of n pairs, number by number, that is one's own. -/
def SlF (N : Mem) (v : LV) (n : Nat) (Z : List Int) : Prop := Z.length = n * 2 ∧ ((v = .nil ∧ n = 0) ∨ ∃ t, v = .ref t 0 n ∧ Live N t (.row (intL Z) true 2))
theorem SlF.pre {M N : Mem} {v : LV} {n : Nat} {Z : List Int} (h : SlF M v n Z) (hp : Pre M N) : SlF N v n Z := by
  obtain ⟨h0, h | ⟨t, h1, h2⟩⟩ := h
  · exact ⟨h0, .inl h⟩
  · exact ⟨h0, .inr ⟨t, h1, h2.pre hp⟩⟩
theorem SlF.lenV {N : Mem} {v : LV} {n : Nat} {Z : List Int} (h : SlF N v n Z) : lenV v = some (n : Int) := by
  obtain ⟨h0, ⟨rfl, rfl⟩ | ⟨t, rfl, h2⟩⟩ := h <;> rfl
theorem SlF.older {M : Mem} {v : LV} {n : Nat} {Z : List Int} (h : SlF M v n Z) : Older M v := fun t o m e => by
  obtain ⟨h0, ⟨rfl, rfl⟩ | ⟨t', rfl, h2⟩⟩ := h
  · cases e
  · cases e; exact h2.lt
theorem SlF.at {M N : Mem} {w : LV} {n : Nat} {Z : List Int} (h : SlF M w n Z) (hk : ∀ t o m, w = .ref t o m → N[t]? = M[t]?) : SlF N w n Z := by
  obtain ⟨h0, h | ⟨t, h1, h2⟩⟩ := h
  · exact ⟨h0, .inl h⟩
  · refine ⟨h0, .inr ⟨t, h1, ?_⟩⟩
    unfold Live; rw [hk _ _ _ h1]; exact h2
end Go.Ab

/- The abstract code of some functions (written by a program of mine from the translation, by way of prepF). -/
namespace Go.Ab.C
open Go.Ab
end Go.Ab.C

/- That the program has this code. -/
namespace Go.Ab.K
open Go Go.Ab
end Go.Ab.K

/- The abstract code of some functions (written by a program of mine from the translation, by way of prepF). -/
namespace Go.Ab.C
open Go.Ab
end Go.Ab.C

/- That the program has this code. -/
namespace Go.Ab.K
open Go Go.Ab
end Go.Ab.K

/- Contracts: pieces placed in a box, the program's side. -/
namespace Go.Ab
open Go
set_option linter.unusedSimpArgs false
set_option linter.unusedVariables false
set_option maxRecDepth 20000

def At4 (at' : Cell) : Prop := (0 ≤ at'.a ∧ at'.a ≤ 4) ∧ (0 ≤ at'.b ∧ at'.b ≤ 4) ∧ (0 ≤ at'.c ∧ at'.c ≤ 4)
def PlacedOK (x y z : Int) (fr : Cell → Bool) (l : List Cell) (at' : Cell) : Prop := At4 at' ∧ ∀ c ∈ l, (shift at' c).inBox x y z ∧ fr (shift at' c) = true
noncomputable instance {x y z : Int} {fr : Cell → Bool} {l : List Cell} {at' : Cell} : Decidable (PlacedOK x y z fr l at') := Classical.propDecidable _
instance {at' : Cell} : Decidable (At4 at') := by unfold At4; exact inferInstance
end Go.Ab

/- The abstract code of some functions (written by a program of mine from the translation, by way of prepF). -/
namespace Go.Ab.C
open Go.Ab
end Go.Ab.C

/- That the program has this code. -/
namespace Go.Ab.K
open Go Go.Ab
end Go.Ab.K

/- The abstract code of some functions (written by a program of mine from the translation, by way of prepF). -/
namespace Go.Ab.C
open Go.Ab
end Go.Ab.C

/- That the program has this code. -/
namespace Go.Ab.K
open Go Go.Ab
end Go.Ab.K

/- Contracts: marks that are held, on lists of cells and on heaps. -/
namespace Go.Ab
open Go
set_option linter.unusedSimpArgs false
set_option linter.unusedVariables false

end Go.Ab

/- Contracts: the laws' helpers on lists of lists of cells. -/
namespace Go.Ab
open Go
set_option linter.unusedSimpArgs false
set_option linter.unusedVariables false

/-- A list of lists of cells that may be read. -/
def CssV (N : Mem) (v : LV) (L : List (List Cell)) : Prop := (v = .nil ∧ L = []) ∨ ∃ (t : Nat) (refs : List LV), v = .ref t 0 L.length ∧ Live N t (.row refs true 1) ∧ refs.length = L.length ∧ ∀ i, i < L.length → ∃ r, refs[i]? = some r ∧ CellsV N r (L.getD i [])
/-- A list of lists of cells that is one's own, and behind M. -/
def SlCC (M N : Mem) (v : LV) (L : List (List Cell)) : Prop := (v = .nil ∧ L = []) ∨ ∃ (t : Nat) (refs : List LV), v = .ref t 0 L.length ∧ M.length ≤ t ∧ Live N t (.row refs true 1) ∧ refs.length = L.length ∧
  (∀ i, i < L.length → ∃ r, refs[i]? = some r ∧ SlC N r (L.getD i []) ∧ Newer M r) ∧ ∀ (i j : Nat) (r s : LV), i ≠ j → refs[i]? = some r → refs[j]? = some s → Apart r s
theorem CssV.lenV {N : Mem} {v : LV} {L : List (List Cell)} (h : CssV N v L) : lenV v = some (L.length : Int) := by
  rcases h with ⟨rfl, rfl⟩ | ⟨t, refs, rfl, _⟩ <;> rfl
theorem SlCC.v {M N : Mem} {v : LV} {L : List (List Cell)} (h : SlCC M N v L) : CssV N v L := by
  rcases h with h | ⟨t, refs, h1, h2, h3, h4, h5, _⟩
  · exact .inl h
  · exact .inr ⟨t, refs, h1, h3, h4, fun i hi => by obtain ⟨r, k1, k2, _⟩ := h5 i hi; exact ⟨r, k1, k2.v⟩⟩
theorem CssV.pre {M N : Mem} {v : LV} {L : List (List Cell)} (h : CssV M v L) (hp : Pre M N) : CssV N v L := by
  rcases h with h | ⟨t, refs, h1, h3, h4, h5⟩
  · exact .inl h
  · exact .inr ⟨t, refs, h1, h3.pre hp, h4, fun i hi => by obtain ⟨r, k1, k2⟩ := h5 i hi; exact ⟨r, k1, k2.pre hp⟩⟩
/-- What is not behind M may have changed. -/
theorem SlCC.keep {M N N' : Mem} {v : LV} {L : List (List Cell)} (h : SlCC M N v L) (hp : ∀ u, M.length ≤ u → u < N.length → N'[u]? = N[u]?) : SlCC M N' v L := by
  have hl : ∀ {u : Nat} {b : Blk}, Live N u b → M.length ≤ u → Live N' u b := fun {u b} hL hu => by unfold Live; rw [hp u hu hL.lt]; exact hL
  rcases h with h | ⟨t, refs, h1, h2, h3, h4, h5, h6⟩
  · exact .inl h
  · refine .inr ⟨t, refs, h1, h2, hl h3 h2, h4, fun i hi => ?_, h6⟩
    obtain ⟨r, k1, k2, k3⟩ := h5 i hi
    refine ⟨r, k1, ?_, k3⟩
    rcases k2 with k2 | ⟨t', ex, q1, q2⟩
    · exact .inl k2
    · refine .inr ⟨t', ex, q1, hl q2 (Nat.not_lt.1 fun h => ?_)⟩
      rw [q1] at k3
      exact (k3 t' h) rfl
theorem SlCC.pre {M N N' : Mem} {v : LV} {L : List (List Cell)} (h : SlCC M N v L) (hp : Pre N N') : SlCC M N' v L := h.keep fun u _ hu => hp.2 u hu
theorem SlCC.mono {M M' N : Mem} {v : LV} {L : List (List Cell)} (h : SlCC M' N v L) (hp : Pre M M') : SlCC M N v L := by
  rcases h with h | ⟨t, refs, h1, h2, h3, h4, h5, h6⟩
  · exact .inl h
  · exact .inr ⟨t, refs, h1, Nat.le_trans hp.1 h2, h3, h4, fun i hi => by obtain ⟨r, k1, k2, k3⟩ := h5 i hi; exact ⟨r, k1, k2, k3.mono hp⟩, h6⟩
theorem SlCC.nil {M N : Mem} : SlCC M N .nil [] := .inl ⟨rfl, rfl⟩
theorem Css.ge {N : Mem} {hi : Nat} : ∀ {lo : Nat} {rs : List LV} {ls : List (List Cell)}, Css N lo hi rs ls → ∀ s ∈ rs, ∃ u n, s = .ref u 0 n ∧ lo ≤ u
  | _, [], _, _, s, hs => by cases hs
  | _, _ :: _, [], h, _, _ => h.elim
  | lo, r :: rs, l :: ls, ⟨u, h1, h2, h3, h4, h5⟩, s, hs => by
    rcases List.mem_cons.1 hs with rfl | hs
    · exact ⟨u, _, h3, h1⟩
    · obtain ⟨w, n, k1, k2⟩ := h5.ge s hs
      exact ⟨w, n, k1, by omega⟩
theorem Css.pair {N : Mem} {hi : Nat} : ∀ {lo : Nat} {rs : List LV} {ls : List (List Cell)}, Css N lo hi rs ls → rs.Pairwise Apart
  | _, [], _, _ => List.Pairwise.nil
  | _, _ :: _, [], h => h.elim
  | lo, r :: rs, l :: ls, ⟨u, h1, h2, h3, h4, h5⟩ => List.pairwise_cons.2 ⟨fun s hs t o n e => by
      obtain ⟨w, m, k1, k2⟩ := h5.ge s hs
      rw [k1] at e; cases e
      rw [h3]; show t ≠ u; omega, h5.pair⟩
theorem SlCC.of {M N : Mem} {u lo hi : Nat} {refs : List LV} {L : List (List Cell)} (hu : M.length ≤ u) (hlo : M.length ≤ lo) (h : Live N u (.row refs true 1)) (hc : Css N lo hi refs L) : SlCC M N (.ref u 0 refs.length) L := by
  have hpw := hc.pair
  rw [List.pairwise_iff_getElem] at hpw
  refine .inr ⟨u, refs, by rw [hc.len], hu, h, hc.len, fun i hi => ?_, fun i j r s hij hr hs => ?_⟩
  · obtain ⟨w, k1, k2, k3, k4⟩ := hc.get hi
    exact ⟨_, k3, SlC.of k4, Newer.of (by omega)⟩
  · obtain ⟨h1, rfl⟩ := List.getElem?_eq_some_iff.1 hr
    obtain ⟨h2, rfl⟩ := List.getElem?_eq_some_iff.1 hs
    rcases Nat.lt_or_ge i j with h3 | h3
    · exact hpw i j h1 h2 h3
    · exact (hpw j i h2 h1 (by omega)).symm

def tot : List (List Cell) → Nat
  | [] => 0
  | l :: ls => l.length + tot ls
/-- Of which the first i lists are marked. -/
def marksT (k : Int) (L : List (List Cell)) (i : Nat) : List (List Cell) := (List.range L.length).map fun j => if j < i then marks3 (k + 3 * (tot (L.take j) : Nat)) (L.getD j []).length else L.getD j []
/-- A list of lists of cells, or none, and whether there is one. -/
def CssRes (M : Mem) (r : Option (List (List Cell))) (v : LV) (N : Mem) : Prop := ∃ w, v = .tup [w, .B r.isSome] ∧ SlCC M N w (r.getD []) ∧ Pre M N
end Go.Ab

/- Plain: packings, as both sides see them. -/
namespace Go.Ab
open Go
set_option linter.unusedSimpArgs false
set_option linter.unusedVariables false

def atL (y z : Int) (xs : List Int) (c : Cell) : Int := xs.getD (idx y z c).toNat 0
/-- The cells with a number. -/
def fib (x y z : Int) (xs : List Int) (k : Nat) : List Cell := pick x y z fun c => decide (atL y z xs c = k)
/-- The free cells without those of the first pieces. -/
def leftP (y z : Int) (cs : List Cell) (xs : List Int) (i : Nat) (c : Cell) : Bool := freeP cs c && !decide (0 ≤ atL y z xs c ∧ atL y z xs c < i)
def negC (c : Cell) : Cell := ⟨-c.a, -c.b, -c.c⟩
/-- Where the program tries a piece. -/
def tryAt (x y z : Int) (L : List (List Cell)) (xs : List Int) (i : Nat) : Cell := shift (negC ((L.getD i []).getD 0 default)) ((fib x y z xs i).getD 0 default)
def StepOK (x y z : Int) (cs : List Cell) (L : List (List Cell)) (xs : List Int) (i : Nat) : Prop :=
  fib x y z xs i ≠ [] ∧ PlacedOK x y z (leftP y z cs xs i) (L.getD i []) (tryAt x y z L xs i) ∧ ∀ d, d.inBox x y z → (d ∈ (L.getD i []).map (shift (tryAt x y z L xs i)) ↔ d ∈ fib x y z xs i)
def ImplPk (x y z : Int) (cs : List Cell) (L : List (List Cell)) (xs : List Int) : Prop :=
  xs.length = vol x y z ∧ (∀ v ∈ xs, -1 ≤ v ∧ v ≤ (L.length : Int) - 1) ∧ (∀ i, i < L.length → StepOK x y z cs L xs i) ∧ ∀ c, c.inBox x y z → leftP y z cs xs L.length c = false
def DiffOK (x y z : Int) (L : List (List Cell)) (xs : List Int) (k : Nat) : Prop :=
  (fib x y z xs k).length = (L.getD k []).length ∧ ∀ i, 1 ≤ i → i < (fib x y z xs k).length → ∀ d : Nat, d < 3 → Cell.at ((fib x y z xs k).getD i default) (d : Int) - Cell.at ((fib x y z xs k).getD 0 default) (d : Int) = Cell.at ((L.getD k []).getD i default) (d : Int) - Cell.at ((L.getD k []).getD 0 default) (d : Int)
def SpecPk (x y z : Int) (cs : List Cell) (L : List (List Cell)) (xs : List Int) : Prop :=
  xs.length = vol x y z ∧ tot L + cs.length = vol x y z ∧ (∀ i, i < vol x y z → (-1 ≤ xs.getD i 0 ∧ xs.getD i 0 ≤ (L.length : Int) - 1) ∧ (xs.getD i 0 < 0 ↔ cellAt y z i ∈ cs)) ∧ ∀ k, k < L.length → DiffOK x y z L xs k

section
variable {x y z : Int} {cs : List Cell} {L : List (List Cell)} {xs : List Int} (hA : AskOK x y z cs L)
include hA
end
end Go.Ab

/- Contracts: packings, the reference's side. -/
namespace Go.Ab
open Go
set_option linter.unusedSimpArgs false
set_option linter.unusedVariables false
set_option maxRecDepth 20000

noncomputable instance {x y z : Int} {cs : List Cell} {L : List (List Cell)} {xs : List Int} : Decidable (SpecPk x y z cs L xs) := Classical.propDecidable _
noncomputable def pkP (x y z : Int) (cs : List Cell) (L : List (List Cell)) (xs : List Int) : Bool × Bool := if AskOK x y z cs L then (decide (SpecPk x y z cs L xs), true) else (false, false)
end Go.Ab

/- Contracts: FaultPlanes, the reference's side. -/
namespace Go.Ab
open Go
set_option linter.unusedSimpArgs false
set_option linter.unusedVariables false
set_option maxRecDepth 20000

/-- Cell i lies before plane k, cell j not, and both are of one piece. -/
def CrossAt (y z : Int) (xs : List Int) (d k i j : Nat) : Prop := 0 ≤ xs.getD i 0 ∧ xs.getD j 0 = xs.getD i 0 ∧ (cellAt y z i).at (d : Int) < k ∧ (k : Int) ≤ (cellAt y z j).at (d : Int)
def Crossed (x y z : Int) (xs : List Int) (d k : Nat) : Prop := ∃ i, i < vol x y z ∧ ∃ j, j < vol x y z ∧ CrossAt y z xs d k i j
noncomputable instance {x y z : Int} {xs : List Int} {d k : Nat} : Decidable (Crossed x y z xs d k) := Classical.propDecidable _
noncomputable def plK (x y z : Int) (xs : List Int) (d : Nat) : Nat → List Int
  | 0 => []
  | k + 1 => plK x y z xs d k ++ (if 1 ≤ k ∧ ¬ Crossed x y z xs d k then [(d : Int), (k : Int)] else [])
noncomputable def plD (x y z : Int) (xs : List Int) : Nat → List Int
  | 0 => []
  | d + 1 => plD x y z xs d ++ plK x y z xs d (sideOf x y z (d : Int)).toNat
noncomputable def planesN (x y z : Int) (cs : List Cell) (L : List (List Cell)) (xs : List Int) : Option (List Int) := if AskOK x y z cs L ∧ SpecPk x y z cs L xs then some (plD x y z xs 3) else none
/-- A list of pairs of numbers, or none, and whether there is one. -/
def PairsRes (M : Mem) (r : Option (List Int)) (v : LV) (N : Mem) : Prop := ∃ w n, v = .tup [w, .B r.isSome] ∧ SlF N w n (r.getD []) ∧ n ≤ 100 ∧ Newer M w ∧ Pre M N

end Go.Ab

/- The abstract code of some functions (written by a program of mine from the translation, by way of prepF). -/
namespace Go.Ab.C
open Go.Ab
end Go.Ab.C

/- That the program has this code. -/
namespace Go.Ab.K
open Go Go.Ab
end Go.Ab.K

/- Contracts: packings, the program's side. -/
namespace Go.Ab
open Go
set_option linter.unusedSimpArgs false
set_option linter.unusedVariables false
set_option maxRecDepth 20000

end Go.Ab

/- Contracts: FaultPlanes, the program's side. -/
namespace Go.Ab
open Go
set_option linter.unusedSimpArgs false
set_option linter.unusedVariables false
set_option maxRecDepth 20000

end Go.Ab

/- Contracts: pieces put into a list of numbers, the reference's side. -/
namespace Go.Ab
open Go
set_option linter.unusedSimpArgs false
set_option linter.unusedVariables false
set_option maxRecDepth 20000

def At3 (p : Cell) : Prop := (0 ≤ p.a ∧ p.a ≤ 3) ∧ (0 ≤ p.b ∧ p.b ≤ 3) ∧ (0 ≤ p.c ∧ p.c ≤ 3)
def FitsP (x y z : Int) (cs l : List Cell) (p : Cell) : Prop := At3 p ∧ ∀ c ∈ l, (shift p c).inBox x y z ∧ shift p c ∉ cs
def startL (x y z : Int) (cs : List Cell) : List Int := (cellsOf x y z).map fun c => if c ∈ cs then -1 else -2
def setsL (y z : Int) (n : Int) (xs : List Int) (ds : List Cell) : List Int := ds.foldl (fun v d => v.set (idx y z d).toNat n) xs
def PutOK (x y z : Int) (cs l : List Cell) (p : Cell) (xs : List Int) : Prop := FitsP x y z cs l p ∧ ∀ c ∈ l, atL y z xs (shift p c) = -2
noncomputable instance {x y z : Int} {cs l : List Cell} {p : Cell} : Decidable (FitsP x y z cs l p) := Classical.propDecidable _
noncomputable instance {x y z : Int} {cs l : List Cell} {p : Cell} {xs : List Int} : Decidable (PutOK x y z cs l p xs) := Classical.propDecidable _
noncomputable def putR (x y z : Int) (cs l : List Cell) (p : Cell) (xs : List Int) (n : Int) : List Int := if PutOK x y z cs l p xs then setsL y z n xs (l.map (shift p)) else []

section
variable {l : List Cell} {t o : Nat} {M : Mem} {p : Cell} (h : Tri M t o l) (hn : l.length ≤ 64) (hin : ∀ c ∈ l, c.inBox 4 4 4) (hp : At3 p)
include h hn hin hp
end
section
variable {x y z : Int} {t o u q : Nat} {cs l : List Cell} {p : Cell} {M : Mem} (h : Tri M t o cs) (hH : HeapOK x y z cs) (hl : Tri M u q l) (hn : l.length ≤ 64) (hin : ∀ c ∈ l, c.inBox 4 4 4)
include h hH hl hn hin
end
end Go.Ab

/- Contracts: a piece put into a list of numbers, the reference's side. -/
namespace Go.Ab
open Go
set_option linter.unusedSimpArgs false
set_option linter.unusedVariables false
set_option maxRecDepth 20000

def PutRes (M : Mem) (ok : Prop) [Decidable ok] (r : List Int) (v : LV) (N : Mem) : Prop := ∃ t, v = .tup [.ref t 0 r.length, .B (decide ok)] ∧ Live N t (.row (intL r) true 1) ∧ M.length ≤ t ∧ Pre M N
section
variable {x y z : Int} {t o u q w r : Nat} {cs l : List Cell} {p : Cell} {xs : List Int} {n : Int} {M : Mem} (h : Tri M t o cs) (hH : HeapOK x y z cs) (hl : Tri M u q l) (hP : PieceOK l) (hp : Small p) (hX : Ints M w r xs) (hxn : xs.length = vol x y z)
include h hH hl hP hp hX hxn
end
end Go.Ab

/- Plain: all packings, in the order of the search. -/
namespace Go.Ab
open Go
set_option linter.unusedSimpArgs false
set_option linter.unusedVariables false

/-- The first hole of a list. -/
def hole (xs : List Int) : Nat := (xs.takeWhile fun v => v != -2).length
def placeAt (y z : Int) (L : List (List Cell)) (i k : Nat) : Cell := shift (negC ((L.getD i []).getD 0 default)) (cellAt y z k)
noncomputable def nextL (x y z : Int) (cs : List Cell) (L : List (List Cell)) (xs : List Int) (i : Nat) : List Int := putR x y z cs (L.getD i []) (placeAt y z L i (hole xs)) xs i
noncomputable def brP (x y z : Int) (cs : List Cell) (L : List (List Cell)) (g : List Int → List (List Int)) (xs : List Int) (i : Nat) : List (List Int) :=
  if (i : Int) ∈ xs then [] else if PutOK x y z cs (L.getD i []) (placeAt y z L i (hole xs)) xs then g (nextL x y z cs L xs i) else []
def leafP (n : Nat) (xs : List Int) : List (List Int) := if ∀ i : Nat, i < n → (i : Int) ∈ xs then [xs] else []
noncomputable def packs (x y z : Int) (cs : List Cell) (L : List (List Cell)) : Nat → List Int → List (List Int)
  | 0, xs => if (-2 : Int) ∈ xs then (List.range L.length).flatMap (brP x y z cs L (fun _ => []) xs) else leafP L.length xs
  | f + 1, xs => if (-2 : Int) ∈ xs then (List.range L.length).flatMap (brP x y z cs L (packs x y z cs L f) xs) else leafP L.length xs
noncomputable def packsB (x y z : Int) (cs : List Cell) (L : List (List Cell)) : Nat → List Int → List (List Int)
  | 0 => fun _ => []
  | f + 1 => packs x y z cs L f
/-- The pieces that a list lacks are among these. -/
def Lacks (n : Nat) (xs : List Int) (S : List Nat) : Prop := ∀ i, i < n → (i : Int) ∉ xs → i ∈ S
section
variable {x y z : Int} {cs : List Cell} {L : List (List Cell)} {xs : List Int} {i : Nat} {S : List Nat} {p : Cell} {l : List Cell} {n : Int}
end
/-- What a search makes of what was found. -/
def selP (once : Bool) (P : List (List Int)) : List (List Int) := if once then P.take 1 else P
def fndP (F : List Int × Nat) (R : List (List Int)) : List Int × Nat := (if F.2 = 0 then R.headD F.1 else F.1, F.2 + R.length)
theorem selP_len {once : Bool} {P : List (List Int)} : (selP once P).length ≤ P.length := by
  unfold selP; split
  · rw [List.length_take]; omega
  · exact Nat.le_refl _
end Go.Ab

/- Contracts: the reference's search for packings. -/
namespace Go.Ab
open Go
set_option linter.unusedSimpArgs false
set_option linter.unusedVariables false
set_option maxRecDepth 20000

def FndRes (M : Mem) (q t1 : Nat) (P0 : List Int × Nat) (v : LV) (N : Mem) : Prop := ∃ t, v = .agg [.ref t 0 P0.1.length, .I P0.2] ∧ Live N t (.row (intL P0.1) true 1) ∧ (t = t1 ∨ t = q ∨ M.length ≤ t) ∧ Pre M N
section
variable {x y z : Int} {t o u : Nat} {cs : List Cell} {L : List (List Cell)} {once : Bool} (hA : AskOK x y z cs L)
include hA
end
end Go.Ab

/- Contracts: the reference's packings. -/
namespace Go.Ab
open Go
set_option linter.unusedSimpArgs false
set_option linter.unusedVariables false
set_option maxRecDepth 20000

/-- The cells of the pieces that a list lacks. -/
noncomputable def remTo (L : List (List Cell)) (xs : List Int) : Nat → Nat
  | 0 => 0
  | m + 1 => remTo L xs m + if (m : Int) ∈ xs then 0 else (L.getD m []).length
section
variable {x y z : Int} {cs : List Cell} {L : List (List Cell)} (hA : AskOK x y z cs L)
include hA
noncomputable def allPk (x y z : Int) (cs : List Cell) (L : List (List Cell)) : List (List Int) := packs x y z cs L 8 (startL x y z cs)
def FindRes (M : Mem) (P0 : List Int × Nat) (v : LV) (N : Mem) : Prop := ∃ t, v = .agg [.ref t 0 P0.1.length, .I P0.2] ∧ Live N t (.row (intL P0.1) true 1) ∧ M.length ≤ t ∧ Pre M N
end
noncomputable def countPk (x y z : Int) (cs : List Cell) (L : List (List Cell)) : Int × Bool := if AskOK x y z cs L then (((allPk x y z cs L).length : Nat), true) else (0, false)
end Go.Ab

/- Plain: what the program keeps while it packs. -/
namespace Go.Ab
open Go
set_option linter.unusedSimpArgs false
set_option linter.unusedVariables false

def freeX (y z : Int) (xs : List Int) (c : Cell) : Bool := decide (atL y z xs c = -2)
/-- The program's list has the numbers that are set. -/
def Agr (xs ys : List Int) : Prop := ys.length = xs.length ∧ ∀ k, k < xs.length → xs.getD k 0 ≠ -2 → ys.getD k 0 = xs.getD k 0
def UsedOK (n : Nat) (xs : List Int) (used : Nat) : Prop := used < 2 ^ n ∧ ∀ i, i < n → (used.testBit i = true ↔ (i : Int) ∈ xs)
/-- The first k places overwritten. -/
def overL (y z : Int) (ds : List Cell) (i : Int) (ys : List Int) : Nat → List Int
  | 0 => ys
  | k + 1 => if cellAt y z k ∈ ds then (overL y z ds i ys k).set k i else overL y z ds i ys k
section
variable {x y z : Int} {cs : List Cell} {L : List (List Cell)} {xs ys : List Int} {l : List Cell} {p : Cell}
def CubesOK (y z : Int) (x : Int) (cs : List Cell) (xs : List Int) : Prop := ∀ c, c.inBox x y z → c ∈ cs → atL y z xs c ≠ -2
end
theorem sel_app {once : Bool} {A B : List (List Int)} (h : once = true → A = []) : selP once (A ++ B) = selP once A ++ selP once B := by
  cases once with
  | false => rfl
  | true => rw [h rfl]; rfl
end Go.Ab

/- The abstract code of some functions (written by a program of mine from the translation, by way of prepF). -/
namespace Go.Ab.C
open Go.Ab
def slices_Max_Sint_int : AFn :=
 ⟨1, 25, [.tmp 2],
 .seq (.ops [(none, .mv 2 (.c (.I 0)))])
 (.seq (.seq (.ops [(none, .mv 5 (.t 0)),
 (none, .len 6 (.t 5)),
 (none, .bin 7 .lss (.t 6) (.c (.I 1)))])
 (.cond (.t 7) (.ops [(none, .bad),
 (none, .bad)])
 (.skip)))
 (.seq (.ops [(none, .mv 9 (.t 0)),
 (none, .idxS 10 1 (.t 9) (.c (.I 0))),
 (none, .load1 11 (.t 10)),
 (none, .mv 3 (.t 11))])
 (.seq (.seq (.ops [(none, .mv 4 (.c (.I 1)))])
 (.block 0 (.loop (.seq (.seq (.ops [(none, .mv 12 (.t 4)),
 (none, .mv 13 (.t 0)),
 (none, .len 14 (.t 13)),
 (none, .bin 15 .lss (.t 12) (.t 14))])
 (.cond (.t 15) (.skip)
 (.exit 0)))
 (.seq (.block 1 (.ops [(none, .mv 18 (.t 3)),
 (none, .mv 19 (.t 0)),
 (none, .mv 20 (.t 4)),
 (none, .idxS 21 1 (.t 19) (.t 20)),
 (none, .load1 22 (.t 21)),
 (none, .mm 23 true [(.t 18), (.t 22)]),
 (none, .mv 3 (.t 23))]))
 (.ops [(none, .mv 16 (.t 4)),
 (none, .bin 17 .add (.t 16) (.c (.I 1))),
 (none, .mv 4 (.t 17))]))))))
 (.seq (.ops [(none, .mv 24 (.t 3)),
 (none, .mv 2 (.t 24))])
 (.ret)))))⟩
end Go.Ab.C

/- That the program has this code. -/
namespace Go.Ab.K
open Go Go.Ab
theorem slices_Max_Sint_int : prepF Go.Proofs.Try.prog F.slices_Max_Sint_int = some C.slices_Max_Sint_int := by kernel_rfl
end Go.Ab.K

/- The abstract code of some functions (written by a program of mine from the translation, by way of prepF). -/
namespace Go.Ab.C
open Go.Ab
end Go.Ab.C

/- That the program has this code. -/
namespace Go.Ab.K
open Go Go.Ab
end Go.Ab.K

/- The abstract code of some functions (written by a program of mine from the translation, by way of prepF). -/
namespace Go.Ab.C
open Go.Ab
end Go.Ab.C

/- That the program has this code. -/
namespace Go.Ab.K
open Go Go.Ab
end Go.Ab.K

/- The abstract code of some functions (written by a program of mine from the translation, by way of prepF). -/
namespace Go.Ab.C
open Go.Ab
end Go.Ab.C

/- That the program has this code. -/
namespace Go.Ab.K
open Go Go.Ab
end Go.Ab.K

/- The abstract code of some functions (written by a program of mine from the translation, by way of prepF). -/
namespace Go.Ab.C
open Go.Ab
end Go.Ab.C

/- That the program has this code. -/
namespace Go.Ab.K
open Go Go.Ab
end Go.Ab.K

/- The abstract code of some functions (written by a program of mine from the translation, by way of prepF). -/
namespace Go.Ab.C
open Go.Ab
end Go.Ab.C

/- That the program has this code. -/
namespace Go.Ab.K
open Go Go.Ab
end Go.Ab.K

/- The abstract code of some functions (written by a program of mine from the translation, by way of prepF). -/
namespace Go.Ab.C
open Go.Ab
end Go.Ab.C

/- That the program has this code. -/
namespace Go.Ab.K
open Go Go.Ab
end Go.Ab.K

/- The abstract code of some functions (written by a program of mine from the translation, by way of prepF). -/
namespace Go.Ab.C
open Go.Ab
end Go.Ab.C

/- That the program has this code. -/
namespace Go.Ab.K
open Go Go.Ab
end Go.Ab.K

/- The abstract code of some functions (written by a program of mine from the translation, by way of prepF). -/
namespace Go.Ab.C
open Go.Ab
end Go.Ab.C

/- That the program has this code. -/
namespace Go.Ab.K
open Go Go.Ab
end Go.Ab.K

/- The abstract code of some functions (written by a program of mine from the translation, by way of prepF). -/
namespace Go.Ab.C
open Go.Ab
end Go.Ab.C

/- That the program has this code. -/
namespace Go.Ab.K
open Go Go.Ab
end Go.Ab.K

/- The abstract code of some functions (written by a program of mine from the translation, by way of prepF). -/
namespace Go.Ab.C
open Go.Ab
end Go.Ab.C

/- That the program has this code. -/
namespace Go.Ab.K
open Go Go.Ab
end Go.Ab.K

/- The abstract code of some functions (written by a program of mine from the translation, by way of prepF). -/
namespace Go.Ab.C
open Go.Ab
def impl_Heap_heights : AFn :=
 ⟨1, 37, [.tmp 2],
 .seq (.ops [(none, .box 1 (.t 0)),
 (none, .mv 2 (.c .nil))])
 (.seq (.ops [(none, .fieldAddr 7 (.t 1) 0),
 (none, .load1 8 (.t 7)),
 (none, .fieldAddr 9 (.t 1) 1),
 (none, .load1 10 (.t 9)),
 (none, .bin 11 .mul (.t 8) (.t 10)),
 (none, .mksl 12 1 8 [(.I 0)] (.t 11) (.t 11)),
 (none, .mv 3 (.t 12))])
 (.seq (.seq (.ops [(none, .fieldAddr 13 (.t 1) 3),
 (none, .load1 14 (.t 13)),
 (none, .len 15 (.t 14)),
 (none, .mv 16 (.c (.I 0)))])
 (.block 0 (.loop (.seq (.ops [(none, .bin 17 .lss (.t 16) (.t 15))])
 (.seq (.cond (.t 17) (.skip)
 (.exit 0))
 (.seq (.block 1 (.seq (.ops [(none, .idxS 18 3 (.t 14) (.t 16)),
 (none, .loadN 19 3 (.t 18)),
 (none, .alloc 5 [(.I 0), (.I 0), (.I 0)]),
 (none, .store 3 (.t 5) (.t 19))])
 (.seq (.draw [⟨(none, .loadN 20 4 (.t 1)), [], []⟩,
 ⟨(none, .loadN 22 3 (.t 5)), [], []⟩,
 ⟨(none, .call (some 21) F.impl_Heap_box [(.t 20)]), [], [1]⟩,
 ⟨(none, .call (some 23) F.impl_box_line [(.t 21), (.t 22), (.c (.I 2))]), [], []⟩,
 ⟨(none, .mv 6 (.t 23)), [], []⟩])
 (.draw [⟨(none, .mv 24 (.t 3)), [], []⟩,
 ⟨(none, .mv 25 (.t 6)), [], []⟩,
 ⟨(none, .mv 26 (.t 3)), [], []⟩,
 ⟨(none, .mv 27 (.t 6)), [], []⟩,
 ⟨(none, .idxS 28 1 (.t 26) (.t 27)), [], []⟩,
 ⟨(none, .load1 29 (.t 28)), [], []⟩,
 ⟨(none, .idxA 30 3 1 (.t 5) (.c (.I 2))), [], []⟩,
 ⟨(none, .load1 31 (.t 30)), [], []⟩,
 ⟨(none, .bin 32 .add (.t 31) (.c (.I 1))), [], []⟩,
 ⟨(none, .mm 33 true [(.t 29), (.t 32)]), [], []⟩,
 ⟨(none, .idxS 34 1 (.t 24) (.t 25)), [], []⟩,
 ⟨(none, .store 1 (.t 34) (.t 33)), [], []⟩]))))
 (.ops [(none, .bin 35 .add (.t 16) (.c (.I 1))),
 (none, .mv 16 (.t 35))])))))))
 (.seq (.ops [(none, .mv 36 (.t 3)),
 (none, .mv 2 (.t 36))])
 (.ret))))⟩
end Go.Ab.C

/- That the program has this code. -/
namespace Go.Ab.K
open Go Go.Ab
theorem impl_Heap_heights : prepF Go.Proofs.Try.prog F.impl_Heap_heights = some C.impl_Heap_heights := by kernel_rfl
end Go.Ab.K

/- Contracts: g_heights. -/
namespace Go.Ab
open Go
set_option linter.unusedSimpArgs false
set_option linter.unusedVariables false
set_option maxRecDepth 20000

theorem g_heights {x y z : Int} {t o : Nat} {cs : List Cell} {M : Mem} (h : Tri M t o cs) (hn : cs.length ≤ 1000000000) (hH : HeapOK x y z cs) :
    CallsTo PG F.impl_Heap_heights [.agg [.I x, .I y, .I z, .ref t o cs.length]] M (.ref M.length 0 (x * y).toNat) (M ++ [some (.row (intL (topsOf x y cs)) true 1)]) := by
  have hb := mul_bound hH.1.1 hH.1.2.1
  refine calls_run K.impl_Heap_heights rfl ?_
  simp (disch := omega) only [C.impl_Heap_heights, made_int, ↓SXd, SXu, slBounds, ↓sop, ↓aop, ↓reduceIte, LV.cells, AOp.dst, LV.I, LV.B, LV.U, LV.S, LV.nil, Nat.reduceEqDiff, Nat.reduceAdd, Nat.reduceMul, Nat.reduceSub, Nat.reduceLeDiff, Nat.reduceBEq, Nat.reduceDiv, Nat.reduceMod, Int.reduceToNat, Int.reduceLT, Int.reduceLE, Int.reduceAdd, Int.reduceSub, Int.reduceMul, Int.reduceEq, Int.reduceNeg, reduceCtorEq, resV, resAll, ARes.ev, LV.flat, ite_true, ite_false, exists_eq_left', exists_eq_left, keyOf, implies_true, fillC, capOf]
  refine ev_loop (fun m fr M' => ∃ (k : Nat) (out : List Int), k + m = cs.length ∧ Pre M M' ∧ Live M' M.length (.row [.I x, .I y, .I z, .ref t o cs.length] true 0) ∧ Live M' (M.length + 1) (.row (intL out) true 1) ∧
    fr 1 = .ptr M.length 0 ∧ fr 3 = .ref (M.length + 1) 0 (x * y).toNat ∧ fr 14 = .ref t o cs.length ∧ fr 15 = .I (cs.length : Nat) ∧ fr 16 = .I k ∧
    out = (cs.take k).foldl (topStep y) (List.replicate (x * y).toNat 0) ∧ out.length = (x * y).toNat) cs.length ⟨0, _, by omega, Pre.app _ _, Live.new, Live.newj rfl, rfl, rfl, rfl, rfl, rfl, rfl, by simp⟩ ?_
  rintro m fr M' ⟨k, out, hk, hpre, hbox, hout, h1, h3, h14, h15, h16, ho, hol⟩
  have h' : Tri M' t o cs := h.pre hpre
  have ht := h'.lt
  simp (disch := omega) only [h1, h3, h14, h15, h16, ↓SXd, SXu, slBounds, ↓sop, ↓aop, ↓reduceIte, LV.cells, AOp.dst, LV.I, LV.B, LV.U, LV.S, LV.nil, Nat.reduceEqDiff, Nat.reduceAdd, Nat.reduceMul, Nat.reduceSub, Nat.reduceLeDiff, Nat.reduceBEq, Nat.reduceDiv, Nat.reduceMod, Int.reduceToNat, Int.reduceLT, Int.reduceLE, Int.reduceAdd, Int.reduceSub, Int.reduceMul, Int.reduceEq, Int.reduceNeg, reduceCtorEq, resV, resAll, ARes.ev, LV.flat, ite_true, ite_false, exists_eq_left', exists_eq_left, keyOf, implies_true, fillC, capOf]
  refine condC_dec (fun hlt => ?_) (fun hlt => ?_)
  · obtain ⟨ca, cb, cc⟩ := hH.cell' (k := k) (by omega)
    have hS := hH.1
    obtain ⟨b1, b2, b3, b4⟩ := col_bound hS.1 hS.2.1 ca cb
    obtain ⟨_, hy, hz⟩ := hS
    have hbox' : ∀ {L : Mem} {o n : Nat}, getCells (M' ++ L) M.length o n = _ := fun {L o n} => (hbox.app (L := L)).cells
    have houtc : ∀ {L : Mem} {o : Nat}, getCell (M' ++ L) (M.length + 1) o = _ := fun {L o} => (hout.app (L := L)).cell
    simp (disch := omega) only [h1, h3, h14, h15, h16, Tri.get h', Cell.row, hbox', ↓SXd, SXu, slBounds, ↓sop, ↓aop, ↓reduceIte, LV.cells, AOp.dst, LV.I, LV.B, LV.U, LV.S, LV.nil, Nat.reduceEqDiff, Nat.reduceAdd, Nat.reduceMul, Nat.reduceSub, Nat.reduceLeDiff, Nat.reduceBEq, Nat.reduceDiv, Nat.reduceMod, Int.reduceToNat, Int.reduceLT, Int.reduceLE, Int.reduceAdd, Int.reduceSub, Int.reduceMul, Int.reduceEq, Int.reduceNeg, reduceCtorEq, resV, resAll, ARes.ev, LV.flat, ite_true, ite_false, exists_eq_left', exists_eq_left, keyOf, implies_true, fillC, capOf]
    refine callK_of g_box ?_
    simp (disch := omega) only [h1, h3, h14, h15, h16, Tri.get h', Cell.row, hbox', ↓SXd, SXu, slBounds, ↓sop, ↓aop, ↓reduceIte, LV.cells, AOp.dst, LV.I, LV.B, LV.U, LV.S, LV.nil, Nat.reduceEqDiff, Nat.reduceAdd, Nat.reduceMul, Nat.reduceSub, Nat.reduceLeDiff, Nat.reduceBEq, Nat.reduceDiv, Nat.reduceMod, Int.reduceToNat, Int.reduceLT, Int.reduceLE, Int.reduceAdd, Int.reduceSub, Int.reduceMul, Int.reduceEq, Int.reduceNeg, reduceCtorEq, resV, resAll, ARes.ev, LV.flat, ite_true, ite_false, exists_eq_left', exists_eq_left, keyOf, implies_true, fillC, capOf]
    refine callK_of (g_line2 (by omega) (by omega)) ?_
    simp (disch := omega) only [h1, h3, h14, h15, h16, Tri.get h', Cell.row, hbox', houtc, intL_get, maxV, if_true, ↓SXd, SXu, slBounds, ↓sop, ↓aop, ↓reduceIte, LV.cells, AOp.dst, LV.I, LV.B, LV.U, LV.S, LV.nil, Nat.reduceEqDiff, Nat.reduceAdd, Nat.reduceMul, Nat.reduceSub, Nat.reduceLeDiff, Nat.reduceBEq, Nat.reduceDiv, Nat.reduceMod, Int.reduceToNat, Int.reduceLT, Int.reduceLE, Int.reduceAdd, Int.reduceSub, Int.reduceMul, Int.reduceEq, Int.reduceNeg, reduceCtorEq, resV, resAll, ARes.ev, LV.flat, ite_true, ite_false, exists_eq_left', exists_eq_left, keyOf, implies_true, fillC, capOf]
    refine memK_int hout.app (by omega) fun N l1 l2 l3 => ?_
    simp (disch := omega) only [h1, h3, h14, h15, h16, ↓SXd, SXu, slBounds, ↓sop, ↓aop, ↓reduceIte, LV.cells, AOp.dst, LV.I, LV.B, LV.U, LV.S, LV.nil, Nat.reduceEqDiff, Nat.reduceAdd, Nat.reduceMul, Nat.reduceSub, Nat.reduceLeDiff, Nat.reduceBEq, Nat.reduceDiv, Nat.reduceMod, Int.reduceToNat, Int.reduceLT, Int.reduceLE, Int.reduceAdd, Int.reduceSub, Int.reduceMul, Int.reduceEq, Int.reduceNeg, reduceCtorEq, resV, resAll, ARes.ev, LV.flat, ite_true, ite_false, exists_eq_left', exists_eq_left, keyOf, implies_true, fillC, capOf]
    refine ⟨m - 1, by omega, k + 1, _, by omega, pre_step (Pre.app' hpre) (by omega) (j := 0) l1 l3, live_step hbox.app (by omega) l3, l2, h1, h3, h14, h15, eqI (natI _), ?_, by simpa using hol⟩
    rw [take_succ_foldl _ _ _ _ default (by omega), ← ho]
    rfl
  · simp (disch := omega) only [h1, h3, h14, h15, h16, ↓SXd, SXu, slBounds, ↓sop, ↓aop, ↓reduceIte, LV.cells, AOp.dst, LV.I, LV.B, LV.U, LV.S, LV.nil, Nat.reduceEqDiff, Nat.reduceAdd, Nat.reduceMul, Nat.reduceSub, Nat.reduceLeDiff, Nat.reduceBEq, Nat.reduceDiv, Nat.reduceMod, Int.reduceToNat, Int.reduceLT, Int.reduceLE, Int.reduceAdd, Int.reduceSub, Int.reduceMul, Int.reduceEq, Int.reduceNeg, reduceCtorEq, resV, resAll, ARes.ev, LV.flat, ite_true, ite_false, exists_eq_left', exists_eq_left, keyOf, implies_true, fillC, capOf]
    have : k = cs.length := by omega
    subst this
    rw [List.take_length] at ho
    rw [show topsOf x y cs = out from ho.symm]
    exact cmp_keepL hpre (by omega) hout (intL_lo out) (by simp [rn, rn0, rn1])

end Go.Ab

/- Contracts: g_top g_isTop g_isTop_nil. -/
namespace Go.Ab
open Go
set_option linter.unusedSimpArgs false
set_option linter.unusedVariables false
set_option maxRecDepth 20000

end Go.Ab

/- Plain words: how far columns are, step by step. -/
namespace Go.Ab

theorem getD_mem {α : Type} {l : List α} {k : Nat} {d : α} (h : k < l.length) : l.getD k d ∈ l := by
  simp [h]

/-- One neighbour of column p is looked at. -/
def visit (p : Int) (st : List Int × List Int) (q : Int) : List Int × List Int :=
  if st.1.getD q.toNat 0 < 0 then (st.1.set q.toNat (st.1.getD p.toNat 0 + 1), st.2 ++ [q]) else st
def bfs (N : Int → List Int) : Nat → Nat → List Int × List Int → List Int
  | 0, _, st => st.1
  | f + 1, n, st => if n < st.2.length then bfs N f (n + 1) ((N (st.2.getD n 0)).foldl (visit (st.2.getD n 0)) st) else st.1
/-- How many steps lead from column p to each column, or -1. -/
def farFrom (c : Nat) (N : Int → List Int) (p : Int) : List Int := bfs N c 0 ((List.replicate c (-1)).set p.toNat 0, [p])

structure BInv (c : Nat) (st : List Int × List Int) : Prop where
  len : st.1.length = c
  cnt : st.1.countP (fun v => decide (v < 0)) + st.2.length = c
  mem : ∀ q ∈ st.2, 0 ≤ q ∧ q < (c : Int)
  val : ∀ k, k < c → -1 ≤ st.1.getD k 0 ∧ st.1.getD k 0 ≤ (st.2.length : Int)

theorem BInv.le {c : Nat} {st : List Int × List Int} (h : BInv c st) : st.2.length ≤ c := by have := h.cnt; omega

theorem BInv.visit {c : Nat} {st : List Int × List Int} {p q : Int} (h : BInv c st) (hp : 0 ≤ p ∧ p < c) (hq : 0 ≤ q ∧ q < c) : BInv c (Go.Ab.visit p st q) := by
  unfold Go.Ab.visit
  split
  · rename_i hlt
    have hql : q.toNat < st.1.length := by rw [h.len]; omega
    have hvp := h.val p.toNat (by omega)
    refine ⟨by simpa using h.len, ?_, fun r hr => ?_, fun k hk => ?_⟩
    · have h1 := h.cnt
      simp only [List.length_append, List.length_singleton]
      rw [List.countP_set hql]
      have e : st.1[q.toNat] = st.1.getD q.toNat 0 := by simp [hql]
      have h2 : 0 < st.1.countP (fun v => decide (v < 0)) := List.countP_pos_iff.2 ⟨st.1[q.toNat], List.getElem_mem _, by rw [e]; simpa using hlt⟩
      rw [e]
      simp only [hlt, decide_true, if_true, show decide (st.1.getD p.toNat 0 + 1 < 0) = false from decide_eq_false (by omega), Bool.false_eq_true, if_false]
      omega
    · rcases List.mem_append.1 hr with hr | hr
      · exact h.mem r hr
      · rw [List.mem_singleton.1 hr]; exact hq
    · simp only [List.length_append, List.length_singleton]
      rw [getD_set]
      have := h.val k hk
      split <;> omega
  · exact h

theorem BInv.fold {c : Nat} {p : Int} (hp : 0 ≤ p ∧ p < c) : ∀ (l : List Int) (st : List Int × List Int), BInv c st → (∀ q ∈ l, 0 ≤ q ∧ q < (c : Int)) → BInv c (l.foldl (Go.Ab.visit p) st)
  | [], st, h, _ => h
  | q :: l, st, h, hl => BInv.fold hp l _ (h.visit hp (hl q (by simp))) fun r hr => hl r (by simp [hr])

theorem BInv.start {c : Nat} {p : Int} (hp : 0 ≤ p ∧ p < c) : BInv c ((List.replicate c (-1)).set p.toNat 0, [p]) := by
  refine ⟨by simp, ?_, fun q hq => by rw [List.mem_singleton.1 hq]; exact hp, fun k hk => ?_⟩
  · have hl : p.toNat < (List.replicate c (-1 : Int)).length := by simp; omega
    simp only
    rw [List.countP_set hl, List.countP_replicate]
    simp
    omega
  · simp only [getD_set]
    split
    · simp
    · simp [hk]

end Go.Ab

/- Plain words: regions. -/
namespace Go.Ab

def spreadOf (x y : Int) (cs : List Cell) (p s : Int) : List Int := farFrom (x * y).toNat (fun q => stepsOf x y (topsOf x y cs) q s) p
def regionOf (x y : Int) (cs : List Cell) (p s : Int) : List Int := (nums (x * y).toNat).filter fun q => decide (0 ≤ (spreadOf x y cs p s).getD q.toNat 0)
def countRegions (x y : Int) (cs : List Cell) (s : Int) : Int := ((nums (x * y).toNat).filter fun p => decide ((regionOf x y cs p s).getD 0 0 = p)).length
end Go.Ab

/- Plain words: the neighbours of a column, the program's way; they are those of the reference. -/
namespace Go.Ab

def nearL (y c p : Int) : List Int :=
  (if y ≤ p then [p - y] else []) ++ ((if 0 < p.tmod y then [p - 1] else []) ++ ((if p.tmod y < y - 1 then [p + 1] else []) ++ (if p + y < c then [p + y] else [])))

end Go.Ab

/- Contracts: the program's steps between columns. -/
namespace Go.Ab
open Go
set_option linter.unusedSimpArgs false
set_option linter.unusedVariables false

end Go.Ab

/- Contracts: searching and deleting in slices, by a function. -/
namespace Go.Ab
open Go
set_option linter.unusedSimpArgs false
set_option linter.unusedVariables false

/-- The place of the first number with a mark, or -1. -/
def idxF (pr : Int → Bool) (xs : List Int) : Int := match xs.findIdx? pr with | some i => (i : Int) | none => -1
/-- What DeleteFunc leaves in the block: what stays, then zeros. -/
def delRow (pr : Int → Bool) (xs : List Int) : List Int := xs.filter (fun v => !pr v) ++ List.replicate (xs.length - (xs.filter fun v => !pr v).length) 0

end Go.Ab

/- Contracts: the program's steps; repeated numbers. -/
namespace Go.Ab
open Go
set_option linter.unusedSimpArgs false
set_option linter.unusedVariables false
set_option maxRecDepth 20000

/-- The row that the program's steps leave: the steps, then zeros. -/
def stepRow (x y : Int) (ts : List Int) (p s : Int) : List Int := stepsOf x y ts p s ++ List.replicate ((nexts x y p).length - (stepsOf x y ts p s).length) 0

end Go.Ab

/- Contracts: the program's distances. -/
namespace Go.Ab
open Go
set_option linter.unusedSimpArgs false
set_option linter.unusedVariables false

end Go.Ab

/- The abstract code of some functions (written by a program of mine from the translation, by way of prepF). -/
namespace Go.Ab.C
open Go.Ab
end Go.Ab.C

/- That the program has this code. -/
namespace Go.Ab.K
open Go Go.Ab
end Go.Ab.K

/- The abstract code of some functions (written by a program of mine from the translation, by way of prepF). -/
namespace Go.Ab.C
open Go.Ab
end Go.Ab.C

/- That the program has this code. -/
namespace Go.Ab.K
open Go Go.Ab
end Go.Ab.K

/- The abstract code of some functions (written by a program of mine from the translation, by way of prepF). -/
namespace Go.Ab.C
open Go.Ab
end Go.Ab.C

/- That the program has this code. -/
namespace Go.Ab.K
open Go Go.Ab
end Go.Ab.K

/- Contracts: the reference's steps. -/
namespace Go.Ab
open Go
set_option linter.unusedSimpArgs false
set_option linter.unusedVariables false

def Low (ts : List Int) : Prop := ∀ k, k < ts.length → -100 ≤ ts.getD k 0 ∧ ts.getD k 0 ≤ 100

end Go.Ab

/- Contracts: the reference's spread. -/
namespace Go.Ab
open Go
set_option linter.unusedSimpArgs false
set_option linter.unusedVariables false

end Go.Ab

/- Contracts: the reference's regions. -/
namespace Go.Ab
open Go
set_option linter.unusedSimpArgs false
set_option linter.unusedVariables false

/-- What TopRegion answers. -/
noncomputable def topRegionOf (x y z : Int) (cs : List Cell) (p s : Int) : Option (List Int) := if HeapOK x y z cs ∧ (0 ≤ p ∧ p ≤ x * y - 1) ∧ 0 ≤ s then some (regionOf x y cs p s) else none

/-- What CountRegions answers. -/
noncomputable def rcOf (x y z : Int) (cs : List Cell) (s : Int) : Option Int := if HeapOK x y z cs ∧ 0 ≤ s then some (countRegions x y cs s) else none

end Go.Ab

/- Contracts: the program's regions. -/
namespace Go.Ab
open Go
set_option linter.unusedSimpArgs false
set_option linter.unusedVariables false

end Go.Ab

/- Plain words: what a spread tells: the least number of steps. -/
namespace Go.Ab

/-- What is known of column v. -/
def dist (st : List Int × List Int) (v : Int) : Int := st.1.getD v.toNat 0

structure FInv (c : Nat) (N : Int → List Int) (p : Int) (n : Nat) (st : List Int × List Int) : Prop where
  base : BInv c st
  here : dist st p = 0
  nonneg : ∀ i, i < st.2.length → 0 ≤ dist st (st.2.getD i 0)
  listed : ∀ v : Int, 0 ≤ v → v < c → 0 ≤ dist st v → ∃ i, i < st.2.length ∧ st.2.getD i 0 = v
  sorted : ∀ i j, i ≤ j → j < st.2.length → dist st (st.2.getD i 0) ≤ dist st (st.2.getD j 0)
  parent : ∀ v : Int, 0 ≤ v → v < c → 0 < dist st v → ∃ a : Int, (0 ≤ a ∧ a < c) ∧ v ∈ N a ∧ 0 ≤ dist st a ∧ dist st v = dist st a + 1
  root : ∀ v : Int, 0 ≤ v → v < c → dist st v = 0 → v = p
  done : ∀ i, i < n → i < st.2.length → ∀ b ∈ N (st.2.getD i 0), 0 ≤ dist st b ∧ dist st b ≤ dist st (st.2.getD i 0) + 1

/-- One more neighbour of the column at place n. -/
theorem FInv.visit1 {c : Nat} {N : Int → List Int} {p a q : Int} {n : Nat} {st : List Int × List Int} (h : FInv c N p n st) (hn : n < st.2.length) (ha : st.2.getD n 0 = a) (hb : ∀ i, i < st.2.length → dist st (st.2.getD i 0) ≤ dist st a + 1)
    (hq : 0 ≤ q ∧ q < c) (hqa : q ∈ N a) : FInv c N p n (visit a st q) ∧ n < (visit a st q).2.length ∧ (visit a st q).2.getD n 0 = a ∧ (∀ i, i < (visit a st q).2.length → dist (visit a st q) ((visit a st q).2.getD i 0) ≤ dist (visit a st q) a + 1) ∧
    (0 ≤ dist (visit a st q) q ∧ dist (visit a st q) q ≤ dist (visit a st q) a + 1) ∧ (∀ v : Int, 0 ≤ dist st v → dist (visit a st q) v = dist st v) := by
  have hac := h.base.mem a (by rw [← ha]; exact getD_mem hn)
  have ha0 := h.nonneg n hn
  rw [ha] at ha0
  have hbase := h.base.visit hac hq
  by_cases hlt : st.1.getD q.toNat 0 < 0
  · have hv : visit a st q = (st.1.set q.toNat (st.1.getD a.toNat 0 + 1), st.2 ++ [q]) := by unfold Go.Ab.visit; rw [if_pos hlt]
    have hql : q.toNat < st.1.length := by rw [h.base.len]; omega
    rw [hv] at hbase ⊢
    have hd : ∀ v : Int, dist (st.1.set q.toNat (st.1.getD a.toNat 0 + 1), st.2 ++ [q]) v = if v.toNat = q.toNat then dist st a + 1 else dist st v := fun v => by
      unfold dist; rw [getD_set]
      by_cases e : v.toNat = q.toNat
      · rw [if_pos ⟨e, hql⟩, if_pos e]
      · rw [if_neg (fun h => e h.1), if_neg e]
    have hold : ∀ v : Int, 0 ≤ dist st v → dist (st.1.set q.toNat (st.1.getD a.toNat 0 + 1), st.2 ++ [q]) v = dist st v := fun v hv => by
      rw [hd, if_neg]; intro e; unfold dist at hv; rw [e] at hv; omega
    have hqd : dist (st.1.set q.toNat (st.1.getD a.toNat 0 + 1), st.2 ++ [q]) q = dist st a + 1 := by rw [hd, if_pos rfl]
    have hl1 : ∀ i, i < st.2.length → (st.2 ++ [q]).getD i 0 = st.2.getD i 0 := fun i hi => by simp only [List.getD_eq_getElem?_getD]; rw [List.getElem?_append_left hi]
    have hl2 : (st.2 ++ [q]).getD st.2.length 0 = q := by simp
    have hlen : (st.2 ++ [q]).length = st.2.length + 1 := by simp
    have hcase : ∀ i, i < (st.2 ++ [q]).length → i < st.2.length ∨ i = st.2.length := fun i hi => by omega
    refine ⟨⟨hbase, by rw [hold _ (by rw [h.here]; omega)]; exact h.here, fun i hi => ?_, fun v h0 hc hv => ?_, fun i j hij hj => ?_, fun v h0 hc hv => ?_, fun v h0 hc hv => ?_, fun i hi hi' b hb' => ?_⟩, by simp only [hlen]; omega, by rw [hl1 n hn, ha], fun i hi => ?_, ?_, hold⟩
    · rcases hcase i hi with h1 | rfl
      · rw [hl1 i h1, hold _ (h.nonneg i h1)]; exact h.nonneg i h1
      · simp only [hl2]; rw [hqd]; omega
    · rw [hd] at hv
      by_cases e : v.toNat = q.toNat
      · exact ⟨st.2.length, by simp only [hlen]; omega, by rw [hl2]; omega⟩
      · rw [if_neg e] at hv
        obtain ⟨i, h1, h2⟩ := h.listed v h0 hc hv
        exact ⟨i, by simp only [hlen]; omega, by rw [hl1 i h1]; exact h2⟩
    · rcases hcase j hj with h1 | rfl
      · rw [hl1 i (by omega), hl1 j h1, hold _ (h.nonneg i (by omega)), hold _ (h.nonneg j h1)]; exact h.sorted i j hij h1
      · simp only [hl2]; rw [hqd]
        rcases Nat.lt_or_ge i st.2.length with h2 | h2
        · rw [hl1 i h2, hold _ (h.nonneg i h2)]; exact hb i h2
        · rw [show i = st.2.length by omega, hl2, hqd]; omega
    · by_cases e : v.toNat = q.toNat
      · have hvq : v = q := by omega
        subst hvq
        exact ⟨a, hac, hqa, by rw [hold _ ha0]; exact ha0, by rw [hqd, hold _ ha0]⟩
      · rw [hd, if_neg e] at hv
        obtain ⟨b, h1, h2, h3, h4⟩ := h.parent v h0 hc hv
        exact ⟨b, h1, h2, by rw [hold _ h3]; exact h3, by rw [hold _ (by omega), hold _ h3]; exact h4⟩
    · by_cases e : v.toNat = q.toNat
      · rw [hd, if_pos e] at hv; omega
      · rw [hd, if_neg e] at hv; exact h.root v h0 hc hv
    · rw [hl1 i (by omega)] at hb' ⊢
      have h1 := h.done i hi (by omega) b hb'
      rw [hold _ h1.1, hold _ (h.nonneg i (by omega))]; exact h1
    · rw [hold _ ha0]
      rcases hcase i hi with h1 | rfl
      · rw [hl1 i h1, hold _ (h.nonneg i h1)]; exact hb i h1
      · simp only [hl2]; rw [hqd]; exact Int.le_refl _
    · rw [hqd, hold _ ha0]; omega
  · have hv : visit a st q = st := by unfold Go.Ab.visit; rw [if_neg hlt]
    rw [hv]
    obtain ⟨i, h1, h2⟩ := h.listed q hq.1 hq.2 (by unfold dist; omega)
    have := hb i h1
    rw [h2] at this
    exact ⟨h, hn, ha, hb, ⟨by unfold dist; omega, this⟩, fun _ _ => rfl⟩

theorem FInv.fold {c : Nat} {N : Int → List Int} {p a : Int} {n : Nat} (hN : ∀ p q, q ∈ N p → 0 ≤ q ∧ q < (c : Int)) : ∀ (l done : List Int) (st : List Int × List Int), FInv c N p n st → n < st.2.length → st.2.getD n 0 = a → (∀ i, i < st.2.length → dist st (st.2.getD i 0) ≤ dist st a + 1) →
    (∀ q ∈ l, q ∈ N a) → (∀ q ∈ done, 0 ≤ dist st q ∧ dist st q ≤ dist st a + 1) →
    FInv c N p n (l.foldl (Go.Ab.visit a) st) ∧ n < (l.foldl (Go.Ab.visit a) st).2.length ∧ (l.foldl (Go.Ab.visit a) st).2.getD n 0 = a ∧ (∀ i, i < (l.foldl (Go.Ab.visit a) st).2.length → dist (l.foldl (Go.Ab.visit a) st) ((l.foldl (Go.Ab.visit a) st).2.getD i 0) ≤ dist (l.foldl (Go.Ab.visit a) st) a + 1) ∧
    (∀ q, q ∈ done ∨ q ∈ l → 0 ≤ dist (l.foldl (Go.Ab.visit a) st) q ∧ dist (l.foldl (Go.Ab.visit a) st) q ≤ dist (l.foldl (Go.Ab.visit a) st) a + 1) := by
  intro l
  induction l with
  | nil => intro done st h hn ha hb _ hd; exact ⟨h, hn, ha, hb, fun q hq => hd q (by simpa using hq)⟩
  | cons q l ih =>
    intro done st h hn ha hb hl hd
    have hqa := hl q (by simp)
    obtain ⟨h1, h2, h3, h4, h5, h6⟩ := h.visit1 hn ha hb (hN a q hqa) hqa
    have ha0 := h.nonneg n hn
    rw [ha] at ha0
    obtain ⟨k1, k2, k3, k4, k5⟩ := ih (q :: done) _ h1 h2 h3 h4 (fun r hr => hl r (by simp [hr])) (fun r hr => by
      rcases List.mem_cons.1 hr with rfl | hr
      · exact h5
      · rw [h6 _ (hd r hr).1, h6 _ ha0]; exact hd r hr)
    exact ⟨k1, k2, k3, k4, fun r hr => k5 r (by simp only [List.mem_cons] at hr ⊢; rcases hr with h | h | h <;> simp [h])⟩

theorem FInv.next {c : Nat} {N : Int → List Int} {p : Int} {n : Nat} {st : List Int × List Int} (hN : ∀ p q, q ∈ N p → 0 ≤ q ∧ q < (c : Int)) (h : FInv c N p n st) (hn : n < st.2.length) (hb : ∀ i, i < st.2.length → dist st (st.2.getD i 0) ≤ dist st (st.2.getD n 0) + 1) :
    FInv c N p (n + 1) ((N (st.2.getD n 0)).foldl (visit (st.2.getD n 0)) st) ∧ ∀ i, n + 1 < ((N (st.2.getD n 0)).foldl (visit (st.2.getD n 0)) st).2.length → i < ((N (st.2.getD n 0)).foldl (visit (st.2.getD n 0)) st).2.length →
      dist ((N (st.2.getD n 0)).foldl (visit (st.2.getD n 0)) st) (((N (st.2.getD n 0)).foldl (visit (st.2.getD n 0)) st).2.getD i 0) ≤ dist ((N (st.2.getD n 0)).foldl (visit (st.2.getD n 0)) st) (((N (st.2.getD n 0)).foldl (visit (st.2.getD n 0)) st).2.getD (n + 1) 0) + 1 := by
  obtain ⟨k1, k2, k3, k4, k5⟩ := FInv.fold hN (N (st.2.getD n 0)) [] st h hn rfl hb (fun q hq => hq) (fun q hq => by cases hq)
  generalize (N (st.2.getD n 0)).foldl (visit (st.2.getD n 0)) st = st' at k1 k2 k3 k4 k5 ⊢
  refine ⟨⟨k1.base, k1.here, k1.nonneg, k1.listed, k1.sorted, k1.parent, k1.root, fun i hi hi' b hb' => ?_⟩, fun i h1 h2 => ?_⟩
  · rcases Nat.lt_or_ge i n with h3 | h3
    · exact k1.done i h3 hi' b hb'
    · have : i = n := by omega
      subst this
      rw [k3] at hb' ⊢
      exact k5 b (.inr hb')
  · have h3 := k4 i h2
    have h4 := k1.sorted n (n + 1) (by omega) h1
    rw [k3] at h4
    omega

theorem FInv.start {c : Nat} {N : Int → List Int} {p : Int} (hp : 0 ≤ p ∧ p < c) : FInv c N p 0 ((List.replicate c (-1)).set p.toNat 0, [p]) := by
  have hd : ∀ v : Int, 0 ≤ v → v < c → dist ((List.replicate c (-1)).set p.toNat 0, [p]) v = if v = p then 0 else -1 := fun v h0 hc => by
    unfold dist
    simp only [getD_set, List.length_replicate]
    by_cases e : v = p
    · subst e; rw [if_pos ⟨rfl, by omega⟩, if_pos rfl]
    · rw [if_neg (fun h => e (by omega)), if_neg e]
      simp only [List.getD_eq_getElem?_getD, List.getElem?_replicate]
      rw [if_pos (by omega)]; rfl
  refine ⟨BInv.start hp, by rw [hd p hp.1 hp.2, if_pos rfl], fun i hi => ?_, fun v h0 hc hv => ?_, fun i j hij hj => ?_, fun v h0 hc hv => ?_, fun v h0 hc hv => ?_, fun i hi => by omega⟩
  · have : i = 0 := by simp at hi; omega
    subst this
    show 0 ≤ dist _ p
    rw [hd p hp.1 hp.2, if_pos rfl]; exact Int.le_refl 0
  · rw [hd v h0 hc] at hv
    split at hv
    · rename_i e; exact ⟨0, by simp, by simp [e]⟩
    · omega
  · have h1 : j = 0 := by simp at hj; omega
    have h2 : i = 0 := by omega
    subst h1; subst h2; exact Int.le_refl _
  · rw [hd v h0 hc] at hv; split at hv <;> omega
  · rw [hd v h0 hc] at hv; split at hv
    · assumption
    · omega

/-- Steps one behind the other. -/
inductive Way (N : Int → List Int) (p : Int) : Nat → Int → Prop
  | nil : Way N p 0 p
  | snoc {n : Nat} {a b : Int} : Way N p n a → b ∈ N a → Way N p (n + 1) b

theorem Way.cons {N : Int → List Int} {n : Nat} {p a b : Int} (h : b ∈ N p) (w : Way N b n a) : Way N p (n + 1) a := by
  induction w with
  | nil => exact .snoc .nil h
  | snoc _ h' ih => exact .snoc ih h'
section
variable {c : Nat} {N : Int → List Int} {p : Int} (hN : ∀ p q, q ∈ N p → 0 ≤ q ∧ q < (c : Int)) (hp : 0 ≤ p ∧ p < c)
include hN hp

end

end Go.Ab

/- Plain words: least numbers; the grid is one region; walks. -/
namespace Go.Ab

/-- The least number of which f holds. -/
noncomputable def leastN (f : Nat → Prop) : Nat := by
  classical
  exact if h : ∃ k, f k ∧ ∀ j, j < k → ¬ f j then Classical.choose h else 0
theorem nexts_comm {x y p q : Int} (hp : 0 ≤ p ∧ p < x * y) (h : q ∈ nexts x y p) : p ∈ nexts x y q := by
  unfold nexts at *
  rw [List.mem_filter] at *
  refine ⟨List.mem_map.2 ⟨p.toNat, List.mem_range.2 (by omega), by simp only [Int.ofNat_eq_natCast]; omega⟩, ?_⟩
  have h2 := of_decide_eq_true h.2
  refine decide_eq_true ?_
  unfold apart at *
  omega
end Go.Ab

/- Contracts: distances and least reaches, both sides. -/
namespace Go.Ab
open Go
set_option linter.unusedSimpArgs false
set_option linter.unusedVariables false

/-- The distance of two columns, or -1. -/
noncomputable def tdOf (x y z : Int) (cs : List Cell) (p q s : Int) : Int := by
  classical
  exact if (HeapOK x y z cs ∧ (0 ≤ p ∧ p ≤ x * y - 1)) ∧ (0 ≤ q ∧ q ≤ x * y - 1) ∧ 0 ≤ s then (spreadOf x y cs p s).getD q.toNat 0 else -1

end Go.Ab

/- Contracts: least reaches, both sides. -/
namespace Go.Ab
open Go
set_option linter.unusedSimpArgs false
set_option linter.unusedVariables false

/-- Column q is reached from p at the reach s. -/
def Near' (x y : Int) (cs : List Cell) (p q : Int) (s : Nat) : Prop := 0 ≤ (spreadOf x y cs p s).getD q.toNat 0
/-- What LeastReach answers. -/
noncomputable def reachOf (x y z : Int) (cs : List Cell) (p q : Int) : Option Nat := by
  classical
  exact if (HeapOK x y z cs ∧ (0 ≤ p ∧ p ≤ x * y - 1)) ∧ (0 ≤ q ∧ q ≤ x * y - 1) then some (leastN (Near' x y cs p q)) else none

end Go.Ab

/- Plain words: least climbs. -/
namespace Go.Ab

def relax1 (ts : List Int) (a c : Int) (st : List Int × Bool) (b : Int) : List Int × Bool :=
  if st.1.getD b.toNat 0 < 0 ∨ c + max (ts.getD b.toNat 0 - ts.getD a.toNat 0) 0 < st.1.getD b.toNat 0 then (st.1.set b.toNat (c + max (ts.getD b.toNat 0 - ts.getD a.toNat 0) 0), true) else st
def relaxCol (ts : List Int) (St : Int → List Int) (st : List Int × Bool) (a : Int) : List Int × Bool :=
  if st.1.getD a.toNat 0 < 0 then st else (St a).foldl (relax1 ts a (st.1.getD a.toNat 0)) st
def climbRound (ts : List Int) (St : Int → List Int) (c : Nat) (best : List Int) : List Int × Bool := (nums c).foldl (relaxCol ts St) (best, false)
def climbLoop (ts : List Int) (St : Int → List Int) (c : Nat) : Nat → List Int → List Int
  | 0, best => best
  | f + 1, best => if (climbRound ts St c best).2 then climbLoop ts St c f (climbRound ts St c best).1 else (climbRound ts St c best).1

def phiOf (v : Int) : Nat := if v < 0 then 100 else v.toNat
def phi (best : List Int) : Nat := (best.map phiOf).sum

def cnt0 (l : List Int) : Nat := l.countP fun v => decide (0 ≤ v)
structure CI (c : Nat) (N : Int → List Int) (p : Int) (best : List Int) : Prop where
  len : best.length = c
  lo : ∀ k, k < c → -1 ≤ best.getD k 0
  hi : ∀ k, k < c → best.getD k 0 ≤ 4 * (cnt0 best : Int) - 4
  root : 0 ≤ best.getD p.toNat 0
  way : ∀ v : Int, 0 ≤ v → v < c → 0 ≤ best.getD v.toNat 0 → ∃ n, Way N p n v

theorem CI.top {c : Nat} {N : Int → List Int} {p : Int} {best : List Int} (h : CI c N p best) (hc : c ≤ 16) : ∀ k, k < c → best.getD k 0 ≤ 60 := fun k hk => by
  have h1 := h.hi k hk
  have h2 : cnt0 best ≤ best.length := List.countP_le_length
  have h3 := h.len
  omega

section
variable {c : Nat} {N : Int → List Int} {p : Int} {ts : List Int} (hN : ∀ p q, q ∈ N p → 0 ≤ q ∧ q < (c : Int)) (hne : ∀ p, p ∉ N p) (hts : ∀ k, 0 ≤ ts.getD k 0 ∧ ts.getD k 0 ≤ 4) (hc : c ≤ 16)
include hN hne hts hc

end

def climbStart (c : Nat) (p : Int) : List Int := (List.replicate c (-1)).set p.toNat 0
end Go.Ab

/- Contracts: least climbs, both sides. -/
namespace Go.Ab
open Go
set_option linter.unusedSimpArgs false
set_option linter.unusedVariables false

/-- The least climbs from a column to all others. -/
def climbs (x y : Int) (cs : List Cell) (p s : Int) : List Int := climbLoop (topsOf x y cs) (fun r => stepsOf x y (topsOf x y cs) r s) (x * y).toNat 2000 (climbStart (x * y).toNat p)
/-- What LeastClimb answers. -/
noncomputable def climbOf (x y z : Int) (cs : List Cell) (p q s : Int) : Option Int := by
  classical
  exact if ((HeapOK x y z cs ∧ (0 ≤ p ∧ p ≤ x * y - 1)) ∧ (0 ≤ q ∧ q ≤ x * y - 1) ∧ 0 ≤ s) ∧ 0 ≤ (spreadOf x y cs p s).getD q.toNat 0 then some ((climbs x y cs p s).getD q.toNat 0) else none

section
variable {x y z s p : Int} {cs : List Cell} (hH : HeapOK x y z cs)
include hH

end

end Go.Ab

/- Plain words: the first walk. -/
namespace Go.Ab

def nextOf (D : List Int) (d : Int) (l : List Int) : Int := l.getD (idxF (fun r => decide (D.getD r.toNat 0 = d)) l).toNat 0
/-- The walk from a column on, that many steps long. -/
def walkW (D : List Int) (St : Int → List Int) : Nat → Int → List Int
  | 0, now => [now]
  | f + 1, now => now :: walkW D St f (nextOf D f (St now))
section
variable {x y s q : Int} {cs : List Cell} (hq : 0 ≤ q ∧ q ≤ x * y - 1)
include hq
end

/-- What FirstTopWalk answers. -/
noncomputable def walkOf (x y z : Int) (cs : List Cell) (p q s : Int) : Option (List Int) := by
  classical
  exact if ((HeapOK x y z cs ∧ (0 ≤ p ∧ p ≤ x * y - 1)) ∧ (0 ≤ q ∧ q ≤ x * y - 1) ∧ 0 ≤ s) ∧ 0 ≤ (spreadOf x y cs q s).getD p.toNat 0 then
    some (walkW (spreadOf x y cs q s) (fun r => stepsOf x y (topsOf x y cs) r s) ((spreadOf x y cs q s).getD p.toNat 0).toNat p) else none
end Go.Ab

/- Plain words: the reach and the climb of a walk; what the law of the walks says of them. -/
namespace Go.Ab
open Go
set_option linter.unusedSimpArgs false
set_option linter.unusedVariables false

def sumN (f : Nat → Int) : Nat → Int
  | 0 => 0
  | k + 1 => sumN f k + f k
/-- The reach of the first k steps. -/
def gapN (u : Nat → Int) : Nat → Int
  | 0 => 0
  | k + 1 => max (gapN u k) (gap (u (k + 1)) (u k))
def upN (u : Nat → Int) (k : Nat) : Int := sumN (fun i => max (u (i + 1) - u i) 0) k
/-- The heights along a walk. -/
def along (ts w : List Int) (i : Nat) : Int := ts.getD (w.getD i 0).toNat 0
def WalkOK (x y z : Int) (cs : List Cell) (w : List Int) : Prop := HeapOK x y z cs ∧ 0 < w.length ∧ (∀ i, i < w.length → 0 ≤ w.getD i 0 ∧ w.getD i 0 ≤ x * y - 1) ∧ ∀ i, i + 1 < w.length → w.getD (i + 1) 0 ∈ nexts x y (w.getD i 0)
/-- What WalkClimb answers. -/
noncomputable def wcOf (x y z : Int) (cs : List Cell) (w : List Int) : Option (Int × Int) := by
  classical
  exact if WalkOK x y z cs w then some (gapN (along (topsOf x y cs) w) (w.length - 1), upN (along (topsOf x y cs) w) (w.length - 1)) else none
theorem getD_reverse {l : List Int} {i : Nat} (h : i < l.length) : l.reverse.getD i 0 = l.getD (l.length - 1 - i) 0 := by
  simp [List.getD_eq_getElem?_getD, List.getElem?_reverse h]
theorem WalkOK.reverse {x y z : Int} {cs : List Cell} {w : List Int} (h : WalkOK x y z cs w) : WalkOK x y z cs w.reverse := by
  obtain ⟨h1, h2, h3, h4⟩ := h
  refine ⟨h1, by simpa using h2, fun i hi => ?_, fun i hi => ?_⟩
  · rw [List.length_reverse] at hi
    rw [getD_reverse hi]; exact h3 _ (by omega)
  · rw [List.length_reverse] at hi
    rw [getD_reverse (by omega), getD_reverse (by omega)]
    have e := h4 (w.length - 1 - (i + 1)) (by omega)
    rw [show w.length - 1 - (i + 1) + 1 = w.length - 1 - i by omega] at e
    have e2 := h3 (w.length - 1 - (i + 1)) (by omega)
    exact nexts_comm (by omega) e
theorem Way.mono {N N' : Int → List Int} (h : ∀ p q, q ∈ N p → q ∈ N' p) {p : Int} {n : Nat} {q : Int} (w : Way N p n q) : Way N' p n q := by
  induction w with
  | nil => exact .nil
  | snoc _ h' ih => exact .snoc ih (h _ _ h')
end Go.Ab

/- Plain: what one sees of lines of columns, levels, orders by sights. -/
namespace Go.Ab
open Go
set_option linter.unusedSimpArgs false
set_option linter.unusedVariables false
set_option maxRecDepth 20000

/-- The greatest height so far, and how many columns one has seen. -/
def seeStep (s : Int × Int) (h : Int) : Int × Int := if h > s.1 then (h, s.2 + 1) else s
def seen (l : List Int) : Int × Int := l.foldl seeStep (0, 0)
/-- The greatest number of a list, at least 0. -/
def mostL (l : List Int) : Int := l.foldl max 0
theorem most_le {n : Int} : ∀ (l : List Int) (s : Int), l.foldl max s ≤ n ↔ s ≤ n ∧ ∀ a ∈ l, a ≤ n
  | [], s => by simp
  | a :: l, s => by
    rw [List.foldl_cons, most_le l]
    simp only [List.mem_cons, forall_eq_or_imp]
    constructor
    · rintro ⟨h1, h2⟩; exact ⟨by omega, by omega, h2⟩
    · rintro ⟨h1, h2, h3⟩; exact ⟨by omega, h3⟩
theorem mostL_le {n : Int} {l : List Int} : mostL l ≤ n ↔ 0 ≤ n ∧ ∀ a ∈ l, a ≤ n := most_le l 0
theorem most_eq {l : List Int} {r : Int} (h0 : ∀ a ∈ l, 0 ≤ a) (h1 : ∀ a ∈ l, a ≤ r) (h2 : r ∈ l) : mostL l = r := by
  have q1 := (mostL_le (n := mostL l)).1 (Int.le_refl _)
  have q2 := (mostL_le (n := r) (l := l)).2 ⟨h0 r h2, h1⟩
  have := q1.2 r h2
  omega
/-- The length and the number of the lines of a direction; the column of a place of a line. -/
def lnN (x y : Int) (dir : Nat) : Nat := (if dir = 0 then x else y).toNat
def lnM (x y : Int) (dir : Nat) : Nat := (if dir = 0 then y else x).toNat
def lnI (y : Int) (dir i k : Nat) : Nat := if dir = 0 then k * y.toNat + i else i * y.toNat + k
def lineH (x y : Int) (dir : Nat) (ts : List Int) (i n : Nat) : List Int := (List.range n).map fun k => ts.getD (lnI y dir i k) 0
def linesH (x y : Int) (dir : Nat) (ts : List Int) (m : Nat) : List (List Int) := (List.range m).map fun i => lineH x y dir ts i (lnN x y dir)
/-- The line of a column. -/
def othN (y : Nat) (dir p : Nat) : Nat := if dir = 0 then p % y else p / y
def rowsB (x y dir i : Nat) : Bool := !(decide (0 < y) && decide (i < (if dir = 0 then y else x))) || decide ((List.range (x * y)).filter (fun p => othN y dir p == i) = (List.range (if dir = 0 then x else y)).map fun k => if dir = 0 then k * y + i else i * y + k)
def rowP (y : Int) (dir : Nat) (ts : List Int) (i n : Nat) : List Int := ((List.range n).filter fun p => othN y.toNat dir p == i).map fun p => ts.getD p 0
/-- Sights of all lines, and the sky line. -/
def sgtL (x y : Int) (dir : Nat) (back : Bool) (ts : List Int) (m : Nat) : List Int := (List.range m).map fun i => (seen (if back then (lineH x y dir ts i (lnN x y dir)).reverse else lineH x y dir ts i (lnN x y dir))).2
def skyL (x y : Int) (dir : Nat) (ts : List Int) (m : Nat) : List Int := (List.range m).map fun i => mostL (lineH x y dir ts i (lnN x y dir))
/-- Levels: a height counts at its place. -/
def lvStep (v : List Int) (h : Int) : List Int := v.set h.toNat (v.getD h.toNat 0 + 1)
def lvL (z : Int) (ts : List Int) : List Int := ts.foldl lvStep (List.replicate (z + 1).toNat 0)
/-- How many orders of m columns one sees i of. -/
def stir : Nat → Nat → Nat
  | 0, 0 => 1
  | 0, _ + 1 => 0
  | m + 1, 0 => m * stir m 0
  | m + 1, i + 1 => m * stir m (i + 1) + stir m i
def stirT : Nat → List Nat
  | 0 => [1, 0, 0, 0, 0, 0, 0, 0, 0, 0, 0, 0, 0]
  | m + 1 => let r := stirT m; (List.range 13).map fun i => m * r.getD i 0 + if i = 0 then 0 else r.getD (i - 1) 0
def factN : Nat → Nat
  | 0 => 1
  | n + 1 => factN n * (n + 1)
end Go.Ab

/- The abstract code of some functions (written by a program of mine from the translation, by way of prepF). -/
namespace Go.Ab.C
open Go.Ab
def laws_rTable : AFn :=
 ⟨2, 27, [.tmp 4],
 .seq (.ops [(none, .mv 4 (.c (.B false)))])
 (.seq (.seq (.ops [(none, .mv 6 (.t 0)),
 (none, .len 7 (.t 6)),
 (none, .mv 8 (.t 1)),
 (none, .len 9 (.t 8)),
 (none, .bin 10 .neq (.t 7) (.t 9))])
 (.cond (.t 10) (.seq (.ops [(none, .mv 4 (.c (.B false)))])
 (.ret))
 (.skip)))
 (.seq (.seq (.ops [(none, .mv 5 (.c (.I 0)))])
 (.block 0 (.loop (.seq (.seq (.ops [(none, .mv 11 (.t 5)),
 (none, .mv 12 (.t 0)),
 (none, .len 13 (.t 12)),
 (none, .bin 14 .lss (.t 11) (.t 13))])
 (.cond (.t 14) (.skip)
 (.exit 0)))
 (.seq (.block 1 (.seq (.draw [⟨(none, .mv 17 (.t 0)), [], []⟩,
 ⟨(none, .mv 18 (.t 5)), [], []⟩,
 ⟨(none, .idxS 19 1 (.t 17) (.t 18)), [], []⟩,
 ⟨(none, .load1 20 (.t 19)), [], []⟩,
 ⟨(none, .mv 21 (.t 1)), [], []⟩,
 ⟨(none, .mv 22 (.t 5)), [], []⟩,
 ⟨(none, .idxS 23 1 (.t 21) (.t 22)), [], []⟩,
 ⟨(none, .load1 24 (.t 23)), [], []⟩,
 ⟨(none, .call (some 25) F.laws_rInts [(.t 20), (.t 24)]), [], []⟩,
 ⟨(none, .un 26 .not (.t 25)), [], []⟩])
 (.cond (.t 26) (.seq (.ops [(none, .mv 4 (.c (.B false)))])
 (.ret))
 (.skip))))
 (.ops [(none, .mv 15 (.t 5)),
 (none, .bin 16 .add (.t 15) (.c (.I 1))),
 (none, .mv 5 (.t 16))]))))))
 (.seq (.ops [(none, .mv 4 (.c (.B true)))])
 (.ret))))⟩
end Go.Ab.C

/- That the program has this code. -/
namespace Go.Ab.K
open Go Go.Ab
theorem laws_rTable : prepF Go.Proofs.Try.prog F.laws_rTable = some C.laws_rTable := by kernel_rfl
end Go.Ab.K

/- Tables: lists of lists of numbers in memory; how they grow; the law's comparison. -/
namespace Go.Ab
open Go
set_option linter.unusedSimpArgs false
set_option linter.unusedVariables false
set_option maxRecDepth 20000

/-- A table that is one's own: its blocks lie before b and not before lo. -/
def TabO (N : Mem) (t : Nat) (L : List (List Int)) (b lo : Nat) : Prop := ∃ refs : List LV, Live N t (.row refs true 1) ∧ refs.length = L.length ∧ t < b ∧ lo ≤ t ∧ ∀ i, i < L.length → ∃ u, lo ≤ u ∧ u < b ∧ u ≠ t ∧ refs[i]? = some (.ref u 0 (L.getD i []).length) ∧ Live N u (.row (intL (L.getD i [])) true 1)
theorem TabO.pre {N N' : Mem} {t : Nat} {L : List (List Int)} {b lo : Nat} (h : TabO N t L b lo) (hp : Pre N N') : TabO N' t L b lo := by
  obtain ⟨refs, h1, h2, h3, h0, h4⟩ := h
  exact ⟨refs, h1.pre hp, h2, h3, h0, fun i hi => by obtain ⟨u, q0, q1, q2, q3, q4⟩ := h4 i hi; exact ⟨u, q0, q1, q2, q3, q4.pre hp⟩⟩
theorem TabO.nil {N : Mem} {t lo : Nat} (h : Live N t (.row [] true 1)) (hl : lo ≤ t) : TabO N t [] N.length lo := ⟨[], h, rfl, h.lt, hl, fun i hi => by simp at hi⟩
/-- All that lies from lo on stays. -/
theorem TabO.hold {N N' : Mem} {t : Nat} {L : List (List Int)} {b lo : Nat} (h : TabO N t L b lo) (hk : ∀ q, lo ≤ q → q < N.length → N'[q]? = N[q]?) : TabO N' t L b lo := by
  obtain ⟨refs, h1, h2, h3, h0, h4⟩ := h
  have key : ∀ {q : Nat} {bl : Blk}, lo ≤ q → Live N q bl → Live N' q bl := fun {q bl} hq hl => by
    have := hl.lt
    unfold Live at hl ⊢
    rw [hk q hq this]; exact hl
  exact ⟨refs, key h0 h1, h2, h3, h0, fun i hi => by obtain ⟨u, q0, q1, q2, q3, q4⟩ := h4 i hi; exact ⟨u, q0, q1, q2, q3, key q0 q4⟩⟩
/-- A row goes behind a table. -/
theorem appendK_tab {M0 N0 N : Mem} {t r lo : Nat} {L : List (List Int)} {l : List Int} {A : LV → Mem → Prop} (h : TabO N0 t L N0.length lo) (hp : Pre N0 N) (hr : Live N r (.row (intL l) true 1)) (hr0 : N0.length ≤ r) (hl : L.length ≤ 1000) (hM : Pre M0 N) (ht : M0.length ≤ t)
    (hA : ∀ u M', TabO M' u (L ++ [l]) M'.length lo → Pre M0 M' → (u = t ∨ N.length ≤ u) → (∀ w, w ≠ t → w < N.length → M'[w]? = N[w]?) → N.length ≤ M'.length → A (.ref u 0 (L ++ [l]).length) M') :
    appendK 1 24 (.ref t 0 L.length) (.ref N.length 0 1) (N ++ [some (.row [.ref r 0 l.length] true 1)]) A := by
  obtain ⟨refs, h1, h2, h3, h0, h4⟩ := h
  have hN := hp.1
  have hrl := hr.lt
  refine appendK_list (acc := refs) (new := [.ref r 0 l.length]) (h1.pre (hp.trans (Pre.app _ _))) (by omega) (Live.new (b := .row [.ref r 0 l.length] true 1)).has (by simp) (by omega) (by omega) fun u M' k1 k2 k3 k4 => ?_
  rw [List.length_append, List.length_singleton] at k1 k3 k4
  have hu : u ≠ r := by rcases k3 with e | e <;> omega
  have hold : ∀ w, w ≠ t → w < N.length → M'[w]? = N[w]? := fun w hw hwl => by
    rw [k4 w hw (by omega)]; exact List.getElem?_append_left hwl
  have e : L.length + 1 = (L ++ [l]).length := by simp
  rw [e]
  refine hA u M' ⟨refs ++ [.ref r 0 l.length], k2, by simp [h2], k2.lt, by rcases k3 with e | e <;> omega, fun i hi => ?_⟩ ?_ ?_ hold (by omega)
  · rw [List.length_append, List.length_singleton] at hi
    by_cases hi2 : i < L.length
    · obtain ⟨v, q0, q1, q2, q3, q4⟩ := h4 i hi2
      have hg : (L ++ [l]).getD i [] = L.getD i [] := by simp only [List.getD_eq_getElem?_getD]; rw [List.getElem?_append_left hi2]
      rw [hg]
      refine ⟨v, q0, by omega, by rcases k3 with e | e <;> omega, by rw [List.getElem?_append_left (by omega)]; exact q3, ?_⟩
      have := q4.pre hp
      unfold Live at this ⊢
      rw [hold v q2 (by omega)]; exact this
    · have : i = L.length := by omega
      subst this
      have hg : (L ++ [l]).getD L.length [] = l := by simp
      rw [hg]
      refine ⟨r, by omega, by omega, fun e => hu e.symm, by rw [← h2, List.getElem?_concat_length], ?_⟩
      unfold Live at hr ⊢
      rw [hold r (by omega) hrl]; exact hr
  · exact ⟨by have := hM.1; omega, fun w hw => by rw [hold w (by omega) (Nat.lt_of_lt_of_le hw hM.1)]; exact hM.2 w hw⟩
  · rcases k3 with e | e
    · exact .inl e
    · exact .inr (by omega)
/-- A table that may be read. -/
def TabV (N : Mem) (v : LV) (L : List (List Int)) : Prop := (v = .nil ∧ L = []) ∨ ∃ (t : Nat) (refs : List LV), v = .ref t 0 L.length ∧ Live N t (.row refs true 1) ∧ refs.length = L.length ∧ ∀ i, i < L.length → ∃ u : Nat, refs[i]? = some (.ref u 0 (L.getD i []).length) ∧ Ints N u 0 (L.getD i [])
theorem TabO.v {N : Mem} {t : Nat} {L : List (List Int)} {b lo : Nat} (h : TabO N t L b lo) : TabV N (.ref t 0 L.length) L := by
  obtain ⟨refs, h1, h2, h3, h0, h4⟩ := h
  exact .inr ⟨t, refs, rfl, h1, h2, fun i hi => by obtain ⟨u, q0, q1, q2, q3, q4⟩ := h4 i hi; exact ⟨u, q3, q4.has⟩⟩
theorem TabV.pre {N N' : Mem} {v : LV} {L : List (List Int)} (h : TabV N v L) (hp : Pre N N') : TabV N' v L := by
  rcases h with h | ⟨t, refs, h1, h2, h3, h4⟩
  · exact .inl h
  · exact .inr ⟨t, refs, h1, h2.pre hp, h3, fun i hi => by obtain ⟨u, q3, q4⟩ := h4 i hi; exact ⟨u, q3, q4.pre hp⟩⟩
theorem TabV.lenV {N : Mem} {v : LV} {L : List (List Int)} (h : TabV N v L) : lenV v = some (L.length : Int) := by
  rcases h with ⟨rfl, rfl⟩ | ⟨t, refs, rfl, _⟩ <;> rfl
theorem TabV.at {N : Mem} {v : LV} {L : List (List Int)} {i : Nat} (h : TabV N v L) (hi : i < L.length) : ∃ t u : Nat, v = .ref t 0 L.length ∧ getCell N t i = some (.ref u 0 (L.getD i []).length) ∧ Ints N u 0 (L.getD i []) := by
  rcases h with ⟨_, rfl⟩ | ⟨t, refs, rfl, h2, h3, h4⟩
  · simp at hi
  · obtain ⟨u, q3, q4⟩ := h4 i hi
    refine ⟨t, u, rfl, ?_, q4⟩
    rw [← q3]
    exact h2.cell
theorem k_rTable {L : List (List Int)} {v v' : LV} {M : Mem} (h : TabV M v L) (h' : TabV M v' L) (hn : L.length ≤ 1000) (hr : ∀ l ∈ L, l.length ≤ 1000) : CallsTo PG F.laws_rTable [v, v'] M (.B true) M := by
  have hv := h.lenV
  have hv' := h'.lenV
  refine calls_run K.laws_rTable rfl ?_
  simp (disch := omega) only [C.laws_rTable, hv, hv', ↓SXd, SXu, slBounds, ↓sop, ↓aop, ↓reduceIte, LV.cells, AOp.dst, LV.I, LV.B, LV.U, LV.S, LV.nil, Nat.reduceEqDiff, Nat.reduceAdd, Nat.reduceMul, Nat.reduceSub, Nat.reduceLeDiff, Nat.reduceBEq, Nat.reduceDiv, Nat.reduceMod, Int.reduceToNat, Int.reduceLT, Int.reduceLE, Int.reduceAdd, Int.reduceSub, Int.reduceMul, Int.reduceEq, Int.reduceNeg, reduceCtorEq, resV, resAll, ARes.ev, LV.flat, ite_true, ite_false, exists_eq_left', exists_eq_left, keyOf, implies_true, fillC, capOf]
  refine ev_loop (fun m fr M' => ∃ k : Nat, k + m = L.length ∧ M' = M ∧ fr 0 = v ∧ fr 1 = v' ∧ fr 5 = .I k) L.length ⟨0, by omega, rfl, rfl, rfl, rfl⟩ ?_
  rintro m fr M' ⟨k, hk, rfl, f0, f1, f5⟩
  simp (disch := omega) only [f0, f1, f5, hv, ↓SXd, SXu, slBounds, ↓sop, ↓aop, ↓reduceIte, LV.cells, AOp.dst, LV.I, LV.B, LV.U, LV.S, LV.nil, Nat.reduceEqDiff, Nat.reduceAdd, Nat.reduceMul, Nat.reduceSub, Nat.reduceLeDiff, Nat.reduceBEq, Nat.reduceDiv, Nat.reduceMod, Int.reduceToNat, Int.reduceLT, Int.reduceLE, Int.reduceAdd, Int.reduceSub, Int.reduceMul, Int.reduceEq, Int.reduceNeg, reduceCtorEq, resV, resAll, ARes.ev, LV.flat, ite_true, ite_false, exists_eq_left', exists_eq_left, keyOf, implies_true, fillC, capOf]
  refine condC_dec (fun hlt => ?_) (fun hlt => ?_)
  · have hkl : k < L.length := by omega
    obtain ⟨t, u, rfl, hg, hi⟩ := h.at hkl
    obtain ⟨t', u', rfl, hg', hi'⟩ := h'.at hkl
    have hll := hr _ (getD_mem' (d := []) hkl)
    simp (disch := omega) only [f0, f1, f5, hg, hg', Nat.mul_one, Nat.zero_add, ↓SXd, SXu, slBounds, ↓sop, ↓aop, ↓reduceIte, LV.cells, AOp.dst, LV.I, LV.B, LV.U, LV.S, LV.nil, Nat.reduceEqDiff, Nat.reduceAdd, Nat.reduceMul, Nat.reduceSub, Nat.reduceLeDiff, Nat.reduceBEq, Nat.reduceDiv, Nat.reduceMod, Int.reduceToNat, Int.reduceLT, Int.reduceLE, Int.reduceAdd, Int.reduceSub, Int.reduceMul, Int.reduceEq, Int.reduceNeg, reduceCtorEq, resV, resAll, ARes.ev, LV.flat, ite_true, ite_false, exists_eq_left', exists_eq_left, keyOf, implies_true, fillC, capOf]
    refine callK_of (k_rInts (.inr ⟨_, _, rfl, hi⟩) (.inr ⟨_, _, rfl, hi'⟩) (by omega)) ?_
    simp (disch := omega) only [f0, f1, f5, Bool.not_true, ↓SXd, SXu, slBounds, ↓sop, ↓aop, ↓reduceIte, LV.cells, AOp.dst, LV.I, LV.B, LV.U, LV.S, LV.nil, Nat.reduceEqDiff, Nat.reduceAdd, Nat.reduceMul, Nat.reduceSub, Nat.reduceLeDiff, Nat.reduceBEq, Nat.reduceDiv, Nat.reduceMod, Int.reduceToNat, Int.reduceLT, Int.reduceLE, Int.reduceAdd, Int.reduceSub, Int.reduceMul, Int.reduceEq, Int.reduceNeg, reduceCtorEq, resV, resAll, ARes.ev, LV.flat, ite_true, ite_false, exists_eq_left', exists_eq_left, keyOf, implies_true, fillC, capOf]
    exact ⟨m - 1, by omega, k + 1, by omega, rfl, f0, f1, eqI (natI _)⟩
  · simp (disch := omega) only [f0, f1, f5, ↓SXd, SXu, slBounds, ↓sop, ↓aop, ↓reduceIte, LV.cells, AOp.dst, LV.I, LV.B, LV.U, LV.S, LV.nil, Nat.reduceEqDiff, Nat.reduceAdd, Nat.reduceMul, Nat.reduceSub, Nat.reduceLeDiff, Nat.reduceBEq, Nat.reduceDiv, Nat.reduceMod, Int.reduceToNat, Int.reduceLT, Int.reduceLE, Int.reduceAdd, Int.reduceSub, Int.reduceMul, Int.reduceEq, Int.reduceNeg, reduceCtorEq, resV, resAll, ARes.ev, LV.flat, ite_true, ite_false, exists_eq_left', exists_eq_left, keyOf, implies_true, fillC, capOf]
    exact cmp_drop0 rfl
end Go.Ab

/- Contracts: lines of columns, sights and sky lines of the reference. -/
namespace Go.Ab
open Go
set_option linter.unusedSimpArgs false
set_option linter.unusedVariables false
set_option maxRecDepth 20000

/-- A list of numbers that may be read, and a truth. -/
def IntsQ (M : Mem) (l : List Int) (b : Bool) (v : LV) (N : Mem) : Prop := ∃ w, v = .tup [w, .B b] ∧ IntsV N w l ∧ Pre M N
def FlatOK (x y z : Int) (cs : List Cell) (d : Int) : Prop := HeapOK x y z cs ∧ 0 ≤ d ∧ d ≤ 1
noncomputable instance (x y z : Int) (cs : List Cell) (d : Int) : Decidable (FlatOK x y z cs d) := Classical.propDecidable _
noncomputable def flatB (x y z : Int) (cs : List Cell) (d : Int) : Bool := decide (FlatOK x y z cs d)
noncomputable def sgtOf (x y z : Int) (cs : List Cell) (d : Int) (b : Bool) : List Int := if FlatOK x y z cs d then sgtL x y d.toNat b (topsOf x y cs) (lnM x y d.toNat) else []
noncomputable def skyOf (x y z : Int) (cs : List Cell) (d : Int) : List Int := if FlatOK x y z cs d then skyL x y d.toNat (topsOf x y cs) (lnM x y d.toNat) else []
section
variable {x y z : Int} {t : Nat} {cs : List Cell} {M : Mem} (h : Tri M t 0 cs)
include h
end
end Go.Ab

/- The abstract code of some functions (written by a program of mine from the translation, by way of prepF). -/
namespace Go.Ab.C
open Go.Ab
end Go.Ab.C

/- That the program has this code. -/
namespace Go.Ab.K
open Go Go.Ab
end Go.Ab.K

/- The abstract code of some functions (written by a program of mine from the translation, by way of prepF). -/
namespace Go.Ab.C
open Go.Ab
end Go.Ab.C

/- That the program has this code. -/
namespace Go.Ab.K
open Go Go.Ab
end Go.Ab.K

/- Contracts: least climbs, the program's side. -/
namespace Go.Ab
open Go
set_option linter.unusedSimpArgs false
set_option linter.unusedVariables false

end Go.Ab

/- Contracts: steps between columns and the climbs of walks, both sides; heights. -/
namespace Go.Ab
open Go
set_option linter.unusedSimpArgs false
set_option linter.unusedVariables false
set_option maxRecDepth 20000

/-- What StepColumns answers. -/
noncomputable def stepRes (x y z : Int) (cs : List Cell) (p s : Int) : Option (List Int) := by
  classical
  exact if HeapOK x y z cs ∧ (0 ≤ p ∧ p ≤ x * y - 1) ∧ 0 ≤ s then some (stepsOf x y (topsOf x y cs) p s) else none
/-- What TopHeights answers. -/
noncomputable def topRes (x y z : Int) (cs : List Cell) : Option (List Int) := by
  classical
  exact if HeapOK x y z cs then some (topsOf x y cs) else none
section
variable {x y z : Int} {t o : Nat} {cs : List Cell} {M : Mem} (h : Tri M t o cs) (hn : cs.length ≤ 1000000000)
include h hn
end
end Go.Ab

/- Contracts: lines of columns, sights and sky lines of the program. -/
namespace Go.Ab
open Go
set_option linter.unusedSimpArgs false
set_option linter.unusedVariables false
set_option maxRecDepth 20000

theorem g_Max {l : List Int} {u : Nat} {M : Mem} (h : Ints M u 0 l) (h0 : 0 < l.length) (hl : l.length ≤ 1000) (hp : ∀ a ∈ l, 0 ≤ a) : CallsTo PG F.slices_Max_Sint_int [.ref u 0 l.length] M (.I (mostL l)) M := by
  have hg0 := Ints.get h (k := 0) h0
  rw [Nat.zero_add] at hg0
  refine calls_run K.slices_Max_Sint_int rfl ?_
  have hlt : ¬ ((l.length : Nat) : Int) < 1 := by omega
  simp (disch := omega) only [C.slices_Max_Sint_int, hlt, hg0, Nat.mul_one, Nat.zero_add, ↓SXd, SXu, slBounds, ↓sop, ↓aop, ↓reduceIte, LV.cells, AOp.dst, LV.I, LV.B, LV.U, LV.S, LV.nil, Nat.reduceEqDiff, Nat.reduceAdd, Nat.reduceMul, Nat.reduceSub, Nat.reduceLeDiff, Nat.reduceBEq, Nat.reduceDiv, Nat.reduceMod, Int.reduceToNat, Int.reduceLT, Int.reduceLE, Int.reduceAdd, Int.reduceSub, Int.reduceMul, Int.reduceEq, Int.reduceNeg, reduceCtorEq, resV, resAll, ARes.ev, LV.flat, ite_true, ite_false, exists_eq_left', exists_eq_left, keyOf, implies_true, fillC, capOf]
  refine ev_loop (fun m fr M' => ∃ (k : Nat) (r : Int), k + m = l.length ∧ 1 ≤ k ∧ M' = M ∧ fr 0 = .ref u 0 l.length ∧ fr 3 = .I r ∧ fr 4 = .I k ∧ (∀ a ∈ l.take k, a ≤ r) ∧ r ∈ l.take k) (l.length - 1)
    ⟨1, l.getD 0 0, by omega, by omega, rfl, rfl, rfl, rfl, fun a ha => ?_, ?_⟩ ?_
  · obtain ⟨b, l', rfl⟩ : ∃ b l', l = b :: l' := by cases l with | nil => simp at h0 | cons b l' => exact ⟨b, l', rfl⟩
    simp at ha
    subst ha
    simp
  · obtain ⟨b, l', rfl⟩ : ∃ b l', l = b :: l' := by cases l with | nil => simp at h0 | cons b l' => exact ⟨b, l', rfl⟩
    simp
  rintro m fr M' ⟨k, r, hk, hk1, rfl, f0, f3, f4, h1, h2⟩
  simp (disch := omega) only [f0, f3, f4, ↓SXd, SXu, slBounds, ↓sop, ↓aop, ↓reduceIte, LV.cells, AOp.dst, LV.I, LV.B, LV.U, LV.S, LV.nil, Nat.reduceEqDiff, Nat.reduceAdd, Nat.reduceMul, Nat.reduceSub, Nat.reduceLeDiff, Nat.reduceBEq, Nat.reduceDiv, Nat.reduceMod, Int.reduceToNat, Int.reduceLT, Int.reduceLE, Int.reduceAdd, Int.reduceSub, Int.reduceMul, Int.reduceEq, Int.reduceNeg, reduceCtorEq, resV, resAll, ARes.ev, LV.flat, ite_true, ite_false, exists_eq_left', exists_eq_left, keyOf, implies_true, fillC, capOf]
  refine condC_dec (fun hlt2 => ?_) (fun hlt2 => ?_)
  · have hkl : k < l.length := by omega
    have hg := Ints.get h hkl
    rw [Nat.zero_add] at hg
    have e : l.take (k + 1) = l.take k ++ [l.getD k 0] := by rw [List.take_add_one, List.getElem?_eq_getElem hkl]; simp [hkl]
    simp (disch := omega) only [f0, f3, f4, hg, Nat.mul_one, Nat.zero_add, maxV, if_true, ite_true, ↓SXd, SXu, slBounds, ↓sop, ↓aop, ↓reduceIte, LV.cells, AOp.dst, LV.I, LV.B, LV.U, LV.S, LV.nil, Nat.reduceEqDiff, Nat.reduceAdd, Nat.reduceMul, Nat.reduceSub, Nat.reduceLeDiff, Nat.reduceBEq, Nat.reduceDiv, Nat.reduceMod, Int.reduceToNat, Int.reduceLT, Int.reduceLE, Int.reduceAdd, Int.reduceSub, Int.reduceMul, Int.reduceEq, Int.reduceNeg, reduceCtorEq, resV, resAll, ARes.ev, LV.flat, ite_true, ite_false, exists_eq_left', exists_eq_left, keyOf, implies_true, fillC, capOf]
    refine ⟨m - 1, by omega, k + 1, max r (l.getD k 0), by omega, by omega, rfl, f0, rfl, eqI (natI _), fun a ha => ?_, ?_⟩
    · rw [e] at ha
      rcases List.mem_append.1 ha with ha | ha
      · have := h1 a ha; omega
      · rw [List.mem_singleton.1 ha]; omega
    · rw [e]
      rcases Int.le_total r (l.getD k 0) with hh | hh
      · rw [Int.max_eq_right hh]; simp
      · rw [Int.max_eq_left hh]; exact List.mem_append_left _ h2
  · have hkl : k = l.length := by omega
    subst hkl
    rw [List.take_length] at h1 h2
    rw [most_eq hp h1 h2]
    simp (disch := omega) only [f0, f3, f4, ↓SXd, SXu, slBounds, ↓sop, ↓aop, ↓reduceIte, LV.cells, AOp.dst, LV.I, LV.B, LV.U, LV.S, LV.nil, Nat.reduceEqDiff, Nat.reduceAdd, Nat.reduceMul, Nat.reduceSub, Nat.reduceLeDiff, Nat.reduceBEq, Nat.reduceDiv, Nat.reduceMod, Int.reduceToNat, Int.reduceLT, Int.reduceLE, Int.reduceAdd, Int.reduceSub, Int.reduceMul, Int.reduceEq, Int.reduceNeg, reduceCtorEq, resV, resAll, ARes.ev, LV.flat, ite_true, ite_false, exists_eq_left', exists_eq_left, keyOf, implies_true, fillC, capOf]
    exact cmp_drop0 rfl
/-- A row of a table in the making: nothing yet, or a block of its own. -/
def RowM (N : Mem) (r : LV) (l : List Int) (u : Nat) : Prop := (l = [] ∧ r = .nil) ∨ (l ≠ [] ∧ r = .ref u 0 l.length ∧ Live N u (.row (intL l) true 1))
theorem RowM.at {N N' : Mem} {r : LV} {l : List Int} {u : Nat} (h : RowM N r l u) (hk : l ≠ [] → N'[u]? = N[u]?) : RowM N' r l u := by
  rcases h with h | ⟨h1, h2, h3⟩
  · exact .inl h
  · refine .inr ⟨h1, h2, ?_⟩
    unfold Live at h3 ⊢
    rw [hk h1]; exact h3
end Go.Ab

/- The abstract code of some functions (written by a program of mine from the translation, by way of prepF). -/
namespace Go.Ab.C
open Go.Ab
end Go.Ab.C

/- That the program has this code. -/
namespace Go.Ab.K
open Go Go.Ab
end Go.Ab.K

/- The abstract code of some functions (written by a program of mine from the translation, by way of prepF). -/
namespace Go.Ab.C
open Go.Ab
end Go.Ab.C

/- That the program has this code. -/
namespace Go.Ab.K
open Go Go.Ab
end Go.Ab.K

/- The abstract code of some functions (written by a program of mine from the translation, by way of prepF). -/
namespace Go.Ab.C
open Go.Ab
end Go.Ab.C

/- That the program has this code. -/
namespace Go.Ab.K
open Go Go.Ab
end Go.Ab.K

/- The abstract code of some functions (written by a program of mine from the translation, by way of prepF). -/
namespace Go.Ab.C
open Go.Ab
end Go.Ab.C

/- That the program has this code. -/
namespace Go.Ab.K
open Go Go.Ab
end Go.Ab.K

/- Contracts: the reference's cubes that stand or hang. -/
namespace Go.Ab
open Go
set_option linter.unusedSimpArgs false
set_option linter.unusedVariables false

end Go.Ab

/- Contracts: what stands, both sides. -/
namespace Go.Ab
open Go
set_option linter.unusedSimpArgs false
set_option linter.unusedVariables false

/-- All of a set stands. -/
def Firm (x y z : Int) (p : Cell → Bool) : Prop := ∀ c, c.inBox x y z → p c = true → stand x y z p c = true
noncomputable instance (x y z : Int) (p : Cell → Bool) : Decidable (Firm x y z p) := Classical.propDecidable _
section
variable {x y z : Int} (hS : Sides x y z)
include hS
/-- A cube can be taken. -/
noncomputable def canTake (x y z : Int) (p : Cell → Bool) (c : Cell) : Bool := p c && decide (Firm x y z fun d => p d && !decide (d = c))

end

end Go.Ab

/- Plain words: the first cell of a set; laying and taking orders. -/
namespace Go.Ab

def first (x y z : Int) (p : Cell → Bool) : Cell := (pick x y z p).headD default
section
variable {x y z : Int} (hS : Sides x y z)
include hS
/-- A cube that may be laid. -/
def layC (q : Cell → Bool) (laid : List Cell) : Cell → Bool := fun c => q c && (!decide (c ∈ laid) && (decide (c.c = 0) || laid.any fun d => decide (apart d c = 1)))
def layL (x y z : Int) (q : Cell → Bool) : Nat → List Cell
  | 0 => []
  | k + 1 => layL x y z q k ++ [first x y z (layC q (layL x y z q k))]

/-- The taking order. -/
noncomputable def takeL (x y z : Int) (q : Cell → Bool) : Nat → List Cell
  | 0 => []
  | k + 1 => takeL x y z q k ++ [first x y z (canTake x y z fun d => q d && !decide (d ∈ takeL x y z q k))]
end
end Go.Ab

/- Contracts: taking orders, both sides. -/
namespace Go.Ab
open Go
set_option linter.unusedSimpArgs false
set_option linter.unusedVariables false

/-- What TakingOrder answers. -/
noncomputable def takeOf (x y z : Int) (cs : List Cell) : Option (List Cell) := by
  classical
  exact if HeapOK x y z cs ∧ Firm x y z (fun c => decide (c ∈ cs)) then some (takeL x y z (fun c => decide (c ∈ cs)) cs.length) else none
end Go.Ab

/- The abstract code of some functions (written by a program of mine from the translation, by way of prepF). -/
namespace Go.Ab.C
open Go.Ab
end Go.Ab.C

/- That the program has this code. -/
namespace Go.Ab.K
open Go Go.Ab
end Go.Ab.K

/- Contracts: laying orders, both sides. -/
namespace Go.Ab
open Go
set_option linter.unusedSimpArgs false
set_option linter.unusedVariables false

/-- What LayingOrder answers. -/
noncomputable def layOf (x y z : Int) (cs : List Cell) : Option (List Cell) := by
  classical
  exact if HeapOK x y z cs ∧ Firm x y z (fun c => decide (c ∈ cs)) then some (layL x y z (fun c => decide (c ∈ cs)) cs.length) else none
end Go.Ab

/- Plain words: taking orders and their number. -/
namespace Go.Ab
open Go
set_option linter.unusedSimpArgs false
set_option linter.unusedVariables false

noncomputable def stdB (x y z : Int) (cs : List Cell) : Bool := @decide (HeapOK x y z cs ∧ Firm x y z fun c => decide (c ∈ cs)) (Classical.propDecidable _)
/-- In how many orders the n cells of a set can be taken. -/
noncomputable def tkN (x y z : Int) : Nat → (Cell → Bool) → Nat
  | 0, _ => 1
  | n + 1, p => ((pick x y z (canTake x y z p)).map fun c => tkN x y z n fun d => p d && !decide (d = c)).sum
def facN : Nat → Nat
  | 0 => 1
  | n + 1 => (n + 1) * facN n
section
variable {x y z : Int} (hS : Sides x y z)
include hS
/-- Whether a list takes all cells, each one when it can be taken. -/
noncomputable def tkOrd (x y z : Int) : List Cell → List Cell → Bool
  | cs, [] => decide (cs = [])
  | cs, c :: l => canTake x y z (fun d => decide (d ∈ cs)) c && tkOrd x y z (cs.filter fun d => !decide (d = c)) l
end
/-- The cubes that cannot be taken. -/
noncomputable def keyL (x y z : Int) (cs : List Cell) : List Cell := pick x y z fun d => decide (d ∈ cs) && !canTake x y z (fun d => decide (d ∈ cs)) d
noncomputable def keyOf' (x y z : Int) (cs : List Cell) : Option (List Cell) := if stdB x y z cs = true then some (keyL x y z cs) else none
end Go.Ab

/- Plain words: staircases, their corners and orders; orders of the directions. -/
namespace Go.Ab
open Go
set_option linter.unusedSimpArgs false
set_option linter.unusedVariables false

def undC (d c : Cell) : Prop := d.a ≤ c.a ∧ d.b ≤ c.b ∧ d.c ≤ c.c
instance (d c : Cell) : Decidable (undC d c) := by unfold undC; infer_instance
/-- A set has each cell of the box none of whose numbers is greater than those of a cell of it. -/
def StairP (x y z : Int) (p : Cell → Bool) : Prop := ∀ c, c.inBox x y z → p c = true → ∀ d, d.inBox x y z → undC d c → p d = true
noncomputable instance {x y z : Int} {p : Cell → Bool} : Decidable (StairP x y z p) := Classical.propDecidable _
/-- The cell before, in one direction. -/
def decC (c : Cell) (k : Nat) : Cell := ⟨if k = 0 then c.a - 1 else c.a, if k = 1 then c.b - 1 else c.b, if k = 2 then c.c - 1 else c.c⟩
/-- A cube without which the set is still a staircase. -/
noncomputable def cornC (x y z : Int) (p : Cell → Bool) (c : Cell) : Bool := p c && decide (StairP x y z fun d => p d && !decide (d = c))
/-- In how many orders n cubes of a staircase can be laid. -/
noncomputable def orN (x y z : Int) : Nat → (Cell → Bool) → Nat
  | 0, _ => 1
  | n + 1, p => ((pick x y z (cornC x y z p)).map fun c => orN x y z n fun d => p d && !decide (d = c)).sum

section
variable {x y z : Int} (hS : Sides x y z)
include hS
end

/-! ### Orders of the directions -/
def permC (o c : Cell) : Cell := ⟨c.at o.a, c.at o.b, c.at o.c⟩
def ordAt (i : Nat) : Cell := ordersL.getD i default
def exHp (o : Cell) (g : Hp) : Hp := ⟨(permC o g.dims).a, (permC o g.dims).b, (permC o g.dims).c, pick (permC o g.dims).a (permC o g.dims).b (permC o g.dims).c fun d => decide (d ∈ g.cs.map (permC o))⟩
def fixB (g : Hp) (i : Nat) : Bool := decide (g.dims = (exHp (ordAt i) g).dims ∧ g.cs = (exHp (ordAt i) g).cs)
def linesN (g : Hp) : Nat := (List.range 6).countP fun i => fixB g i
/-- The order that two orders make: first j, then i. -/
def mulO (i j : Nat) : Nat := ([[0, 1, 2, 3, 4, 5], [1, 0, 4, 5, 2, 3], [2, 3, 0, 1, 5, 4], [3, 2, 5, 4, 0, 1], [4, 5, 1, 0, 3, 2], [5, 4, 3, 2, 1, 0]].getD j []).getD i 0
def invO (i : Nat) : Nat := [0, 1, 2, 4, 3, 5].getD i 0
/-- An order leaves a heap as it is. -/
def FixO (D : Cell) (cs : List Cell) (i : Nat) : Prop := permC (ordAt i) D = D ∧ ∀ c ∈ cs, permC (ordAt i) c ∈ cs
def conjO (i : Nat) : Nat := [0, 2, 5, 3, 4, 1].getD i 0
section
variable {x y z : Int} (hS : Sides x y z)
include hS
end
end Go.Ab

/- Plain words: all staircases of a box by their heights; their number as a quotient. -/
namespace Go.Ab
open Go
set_option linter.unusedSimpArgs false
set_option linter.unusedVariables false

/-- The greatest height that may follow some heights. -/
def mostS (y : Nat) (z : Int) (l : List Int) : Int :=
  if 0 < l.length % y then min (if y ≤ l.length then min z (l.getD (l.length - y) 0) else z) (l.getD (l.length - 1) 0) else if y ≤ l.length then min z (l.getD (l.length - y) 0) else z
def allS (y : Nat) (z : Int) : Nat → List Int → List (List Int)
  | 0, l => [l]
  | n + 1, l => (List.range (mostS y z l + 1).toNat).flatMap fun (h : Nat) => allS y z n (l ++ [(h : Int)])
def OkS (z : Int) (l : List Int) : Prop := ∀ a ∈ l, 0 ≤ a ∧ a ≤ z
def pcell (z : Nat) (s : Nat × Nat) (i k : Nat) : Nat × Nat := ((s.1 * (i + k + 1 + z)) / Nat.gcd (s.1 * (i + k + 1 + z)) (s.2 * (i + k + 1)), (s.2 * (i + k + 1)) / Nat.gcd (s.1 * (i + k + 1 + z)) (s.2 * (i + k + 1)))
def prow (z : Nat) (s : Nat × Nat) (i : Nat) : Nat → Nat × Nat
  | 0 => s
  | k + 1 => pcell z (prow z s i k) i k
def pall (y z : Nat) : Nat → Nat × Nat
  | 0 => (1, 1)
  | i + 1 => prow z (pall y z i) i y
/-- The program's number of staircases. -/
def cntSP (x y z : Nat) : Nat := (pall y z x).1 / (pall y z x).2
def rrow (z : Nat) (s : Nat × Nat) (i : Nat) : Nat → Nat × Nat
  | 0 => s
  | k + 1 => ((rrow z s i k).1 * (i + k + 1 + z), (rrow z s i k).2 * (i + k + 1))
def rred (s : Nat × Nat) : Nat × Nat := (s.1 / Nat.gcd s.1 s.2, s.2 / Nat.gcd s.1 s.2)
def rall (y z : Nat) : Nat → Nat × Nat
  | 0 => (1, 1)
  | i + 1 => rred (rrow z (rall y z i) i y)
/-- The reference's. -/
def cntSR (x y z : Nat) : Nat := (rall y z x).1 / (rall y z x).2
def small1 (s : Nat × Nat) : Bool := decide (1 ≤ s.1) && decide (s.1 ≤ 1000000000000000) && decide (1 ≤ s.2) && decide (s.2 ≤ 1000000000000000)
end Go.Ab

/- The abstract code of some functions (written by a program of mine from the translation, by way of prepF). -/
namespace Go.Ab.C
open Go.Ab
end Go.Ab.C

/- That the program has this code. -/
namespace Go.Ab.K
open Go Go.Ab
end Go.Ab.K

/- The abstract code of some functions (written by a program of mine from the translation, by way of prepF). -/
namespace Go.Ab.C
open Go.Ab
end Go.Ab.C

/- That the program has this code. -/
namespace Go.Ab.K
open Go Go.Ab
end Go.Ab.K

/- The abstract code of some functions (written by a program of mine from the translation, by way of prepF). -/
namespace Go.Ab.C
open Go.Ab
end Go.Ab.C

/- That the program has this code. -/
namespace Go.Ab.K
open Go Go.Ab
end Go.Ab.K

/- The abstract code of some functions (written by a program of mine from the translation, by way of prepF). -/
namespace Go.Ab.C
open Go.Ab
end Go.Ab.C

/- That the program has this code. -/
namespace Go.Ab.K
open Go Go.Ab
end Go.Ab.K

/- The abstract code of some functions (written by a program of mine from the translation, by way of prepF). -/
namespace Go.Ab.C
open Go.Ab
end Go.Ab.C

/- That the program has this code. -/
namespace Go.Ab.K
open Go Go.Ab
end Go.Ab.K

/- The abstract code of some functions (written by a program of mine from the translation, by way of prepF). -/
namespace Go.Ab.C
open Go.Ab
end Go.Ab.C

/- That the program has this code. -/
namespace Go.Ab.K
open Go Go.Ab
end Go.Ab.K

/- The abstract code of some functions (written by a program of mine from the translation, by way of prepF). -/
namespace Go.Ab.C
open Go.Ab
end Go.Ab.C

/- That the program has this code. -/
namespace Go.Ab.K
open Go Go.Ab
end Go.Ab.K

/- Contracts: pieces that fit, places, boxes, parities: the reference's side. -/
namespace Go.Ab
open Go
set_option linter.unusedSimpArgs false
set_option linter.unusedVariables false
set_option maxRecDepth 20000

theorem PieceOK.le {l : List Cell} (h : PieceOK l) : l.length ≤ 5 := h.1.2
def FitQ (x y z : Int) (cs l : List Cell) : Prop := HeapOK x y z cs ∧ PieceOK l
noncomputable def fitOf (x y z : Int) (cs l : List Cell) (p : Cell) : Option Bool := by
  classical
  exact if FitQ x y z cs l then some (decide (FitsP x y z cs l p)) else none
noncomputable def placesOf (x y z : Int) (cs l : List Cell) : Option (List Cell) := by
  classical
  exact if FitQ x y z cs l then some (pick x y z fun c => decide (FitsP x y z cs l c)) else none
noncomputable def boxOf (x y z : Int) : Option (List Cell) := by
  classical
  exact if Sides x y z ∧ vol x y z ≤ 5 then some (cellsOf x y z) else none
noncomputable def ppOf (l : List Cell) : Option Int := by
  classical
  exact if PieceOK l then some (max (parL l) (0 - parL l)) else none
noncomputable def fpOf (x y z : Int) (cs : List Cell) : Option Int := by
  classical
  exact if HeapOK x y z cs then some (parL (pick x y z (freeP cs))) else none
section
variable {x y z : Int} {t o u q : Nat} {cs l : List Cell} {M : Mem} (h : Tri M t o cs) (hn : cs.length ≤ 1000000000) (hl : Tri M u q l) (hln : l.length ≤ 1000000000)
include hl hln
include h hn
end
end Go.Ab

/- Contracts: pieces that fit, places, boxes, parities, other cells: the program's side. -/
namespace Go.Ab
open Go
set_option linter.unusedSimpArgs false
set_option linter.unusedVariables false
set_option maxRecDepth 20000

noncomputable instance {x y z : Int} {cs l : List Cell} : Decidable (FitQ x y z cs l) := Classical.propDecidable _
section
variable {x y z : Int} {t o u q : Nat} {cs l : List Cell} {M : Mem} (h : Tri M t o cs) (hn : cs.length ≤ 1000000000) (hl : Tri M u q l) (hln : l.length ≤ 1000000000)
include hl hln
include h hn
end
end Go.Ab

/- Plain: boxes as pieces; parities of all cells; places. -/
namespace Go.Ab
open Go
set_option linter.unusedSimpArgs false
set_option linter.unusedVariables false
set_option maxRecDepth 20000

end Go.Ab

/- Contracts: the law of pieces' helpers. -/
namespace Go.Ab
open Go
set_option linter.unusedSimpArgs false
set_option linter.unusedVariables false
set_option maxRecDepth 20000

end Go.Ab

/- Contracts: keys, taking orders and their number, the reference's side. -/
namespace Go.Ab
open Go
set_option linter.unusedSimpArgs false
set_option linter.unusedVariables false
set_option maxRecDepth 20000

/-- A list of cells and a truth value. -/
def CellsY (M : Mem) (r : Option (List Cell)) (v : LV) (N : Mem) : Prop := ∃ w, v = .tup [w, .B r.isSome] ∧ CellsV N w (r.getD []) ∧ Pre M N
theorem CellsRes.y {M N : Mem} {r : Option (List Cell)} {v : LV} (h : CellsRes M r v N) : CellsY M r v N := by
  obtain ⟨w, h1, h2, _, h3⟩ := h
  exact ⟨w, h1, h2.v, h3⟩
noncomputable def canB (x y z : Int) (cs : List Cell) (c : Cell) : Bool := stdB x y z cs && decide (c.inBox x y z)
noncomputable def canR (x y z : Int) (cs : List Cell) (c : Cell) : Bool := canB x y z cs c && canTake x y z (fun d => decide (d ∈ cs)) c
noncomputable def ordR (x y z : Int) (cs l : List Cell) : Bool := stdB x y z cs && tkOrd x y z cs l
noncomputable def tksB (x y z : Int) (cs : List Cell) : Bool := stdB x y z cs && decide (cs.length ≤ 8)
noncomputable def tksN (x y z : Int) (cs : List Cell) : Nat := if tksB x y z cs = true then tkN x y z cs.length (fun d => decide (d ∈ cs)) else 0

section
variable {x y z : Int} {t : Nat} {w : Bool} {cs : List Cell} {M : Mem} (h : Live M t (.row (triL cs) w 3)) (hn : cs.length ≤ 1000000000)
include h hn
end
end Go.Ab

/- Contracts: keys, taking orders, the program's side. Maps with sets as keys. -/
namespace Go.Ab
open Go
set_option linter.unusedSimpArgs false
set_option linter.unusedVariables false
set_option maxRecDepth 20000

section
variable {x y z : Int} {t : Nat} {w : Bool} {cs : List Cell} {M : Mem} (h : Live M t (.row (triL cs) w 3)) (hn : cs.length ≤ 1000000000)
include h hn
end

end Go.Ab

/- Contracts: the number of taking orders, with a map of what was counted. -/
namespace Go.Ab
open Go
set_option linter.unusedSimpArgs false
set_option linter.unusedVariables false
set_option maxRecDepth 20000

/-- A map from sets to numbers. -/
def memE (L : List (BitVec 64 × Int)) : List (LV × LV) := L.map fun q => (LV.W q.1, LV.I q.2)
/-- All blocks but one stay. -/
def But1 (t : Nat) (M N : Mem) : Prop := M.length ≤ N.length ∧ ∀ u, u ≠ t → u < M.length → N[u]? = M[u]?
theorem But1.trans {t : Nat} {M N N' : Mem} (h : But1 t M N) (k : But1 t N N') : But1 t M N' := ⟨Nat.le_trans h.1 k.1, fun u h1 h2 => by rw [k.2 u h1 (Nat.lt_of_lt_of_le h2 h.1)]; exact h.2 u h1 h2⟩
theorem But1.of {t : Nat} {M N : Mem} (h : Pre M N) : But1 t M N := ⟨h.1, fun u _ h2 => h.2 u h2⟩
theorem Live.but {t q : Nat} {M N : Mem} {b : Blk} (h : Live M q b) (k : But1 t M N) (h1 : q ≠ t) : Live N q b := Live.at h (k.2 q h1 h.lt)

section
variable {x y z : Int} (hS : Sides x y z)
include hS
end

/-- What the map says is true. -/
def MemoT (x y z : Int) (L : List (BitVec 64 × Int)) : Prop := (∃ q ∈ L, q.1 = 0#64) ∧ ∀ q ∈ L, ∀ p : Cell → Bool, q.1 = bs x y z p → q.2 = (tkN x y z (pick x y z p).length p : Nat)

end Go.Ab

/- Heaps that a law keeps: mirrored, swapped, joined, common, shifted, cropped and widened ones, plainly. -/
namespace Go.Ab
open Go
set_option linter.unusedSimpArgs false
set_option linter.unusedVariables false
set_option maxRecDepth 20000

/-- A heap, or the empty one and false; its cells lie in a block of their own. -/
def HeapX (M : Mem) (r : Option Hp) (v : LV) (N : Mem) : Prop := ∃ u : Nat, v = .tup [.agg [.I (r.getD Hp.none).x, .I (r.getD Hp.none).y, .I (r.getD Hp.none).z, .ref u 0 (r.getD Hp.none).cs.length], .B r.isSome] ∧ Live N u (.row (triL (r.getD Hp.none).cs) true 3) ∧ Pre M N
section
variable (x y z : Int) (cs : List Cell)
noncomputable def mirOf (d : Int) : Option Hp := by
  classical
  exact if HeapOK x y z cs ∧ Dir d then some ⟨x, y, z, mirD x y z d cs⟩ else none
noncomputable def othOf : Option Hp := by
  classical
  exact if HeapOK x y z cs then some ⟨x, y, z, pick x y z (freeP cs)⟩ else none
end
/-- Two coordinates exchanged. -/
def swI (a b i : Int) : Int := if i = a then b else if i = b then a else i
def swC (a b : Int) (c : Cell) : Cell := ⟨c.at (swI a b 0), c.at (swI a b 1), c.at (swI a b 2)⟩
def swX (a b : Int) (x y z : Int) (cs : List Cell) : Hp := ⟨(swC a b ⟨x, y, z⟩).a, (swC a b ⟨x, y, z⟩).b, (swC a b ⟨x, y, z⟩).c, pick (swC a b ⟨x, y, z⟩).a (swC a b ⟨x, y, z⟩).b (swC a b ⟨x, y, z⟩).c fun d => decide (d ∈ cs.map (swC a b))⟩
section
variable {x y z : Int} {cs : List Cell}
end
section
variable (x y z : Int) (cs : List Cell)
noncomputable def swpOf (a b : Int) : Option Hp := by
  classical
  exact if HeapOK x y z cs ∧ Dir a ∧ Dir b then some (swX a b x y z cs) else none
/-- Both are heaps, in the same box. -/
def Alike (x' y' z' : Int) (ds : List Cell) : Prop := HeapOK x y z cs ∧ HeapOK x' y' z' ds ∧ x = x' ∧ y = y' ∧ z = z'
noncomputable instance {x y z : Int} {cs : List Cell} {x' y' z' : Int} {ds : List Cell} : Decidable (Alike x y z cs x' y' z' ds) := Classical.propDecidable _
noncomputable def jnOf (x' y' z' : Int) (ds : List Cell) : Option Hp := if Alike x y z cs x' y' z' ds then some ⟨x, y, z, pick x y z fun c => decide (c ∈ cs) || decide (c ∈ ds)⟩ else none
noncomputable def cmOf (x' y' z' : Int) (ds : List Cell) : Option Hp := if Alike x y z cs x' y' z' ds then some ⟨x, y, z, pick x y z fun c => decide (c ∈ cs) && decide (c ∈ ds)⟩ else none
/-- A shift that is not too far. -/
def Near4 (p : Cell) : Prop := (-4 ≤ p.a ∧ p.a ≤ 4) ∧ (-4 ≤ p.b ∧ p.b ≤ 4) ∧ (-4 ≤ p.c ∧ p.c ≤ 4)
noncomputable def shOf (p : Cell) : Option Hp := by
  classical
  exact if HeapOK x y z cs ∧ Near4 p ∧ HeapOK x y z (cs.map (shift p)) then some ⟨x, y, z, cs.map (shift p)⟩ else none
noncomputable def crOf : Option Hp := by
  classical
  exact if HeapOK x y z cs ∧ 0 < cs.length then some (cropHp cs) else none
noncomputable def wdOf (X Y Z : Int) : Option Hp := by
  classical
  exact if HeapOK x y z cs ∧ HeapOK X Y Z cs then some ⟨X, Y, Z, cs⟩ else none
end
end Go.Ab

/- Contracts: staircases, their corners, orders, turning; the program's side. -/
namespace Go.Ab
open Go
set_option linter.unusedSimpArgs false
set_option linter.unusedVariables false
set_option maxRecDepth 20000

noncomputable def strB (x y z : Int) (cs : List Cell) : Bool := @decide (HeapOK x y z cs ∧ StairP x y z fun c => decide (c ∈ cs)) (Classical.propDecidable _)
section
variable {x y z : Int} (hS : Sides x y z)
include hS
end
end Go.Ab

/- Contracts: the number of staircases. -/
namespace Go.Ab
open Go
set_option linter.unusedSimpArgs false
set_option linter.unusedVariables false
set_option maxRecDepth 20000

theorem tmodNN {j k : Nat} : ((j : Nat) : Int).tmod (k : Int) = ((j % k : Nat) : Int) := by
  rw [Int.tmod_eq_emod_of_nonneg (by omega)]; rfl
theorem tdivNN {j k : Nat} : ((j : Nat) : Int).tdiv (k : Int) = ((j / k : Nat) : Int) := by
  rw [Int.tdiv_eq_ediv_of_nonneg (by omega)]; rfl
/-- A box whose staircases can be listed. -/
noncomputable def fewB (x y z : Int) : Bool := decide (Sides x y z) && decide (cntSP x.toNat y.toNat z.toNat ≤ 1000)
end Go.Ab
