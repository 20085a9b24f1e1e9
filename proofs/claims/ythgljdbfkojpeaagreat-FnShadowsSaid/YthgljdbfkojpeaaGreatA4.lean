/- Parts of the proof of FnShadowsSaid: F C_LFnShadows K_LFnShadows Sa Sb Sc Sd Se Sw. -/
import Derived.Test.YthgljdbfkojpeaaGreatA3
import Derived.Test.YthgljdbfkojpeaaGreatProg
import Derived.KernelRfl
import Derived.IntWalk
import Derived.Laws.Bits64
set_option linter.all false
/- The numbers of the program's functions, in this seat. -/
namespace Go.Ab.F
abbrev main_main : Nat := 0
abbrev gosem_cut : Nat := 1
abbrev gosem_cut_init : Nat := 2
abbrev laws_FnForms : Nat := 3
abbrev laws_FnShadows : Nat := 4
abbrev laws_rBig : Nat := 5
abbrev spec_DrawFirstForm : Nat := 6
abbrev impl_FirstForm : Nat := 7
abbrev spec_FirstForm : Nat := 8
abbrev laws_rHeap : Nat := 9
abbrev impl_SymmetriesOf : Nat := 10
abbrev spec_SymmetriesOf : Nat := 11
abbrev laws_rInts : Nat := 12
abbrev impl_PositionsOf : Nat := 13
abbrev spec_PositionsOf : Nat := 14
abbrev impl_IsHanded : Nat := 15
abbrev spec_IsHanded : Nat := 16
abbrev spec_DrawAreSameForm : Nat := 17
abbrev impl_AreSameForm : Nat := 18
abbrev spec_AreSameForm : Nat := 19
abbrev impl_MirrorHeap : Nat := 20
abbrev impl_CropHeap : Nat := 21
abbrev impl_TurnHeap : Nat := 22
abbrev laws_rHas : Nat := 23
abbrev laws_vBig : Nat := 24
abbrev spec_DrawFitTogether : Nat := 25
abbrev impl_FitTogether : Nat := 26
abbrev spec_FitTogether : Nat := 27
abbrev impl_GreatestHeap : Nat := 28
abbrev spec_GreatestHeap : Nat := 29
abbrev impl_MustCells : Nat := 30
abbrev spec_MustCells : Nat := 31
abbrev impl_SpareCells : Nat := 32
abbrev spec_SpareCells : Nat := 33
abbrev impl_LineBound : Nat := 34
abbrev spec_LineBound : Nat := 35
abbrev impl_CleanShadow : Nat := 36
abbrev spec_CleanShadow : Nat := 37
abbrev spec_DrawIsShadowOf : Nat := 38
abbrev laws_vCut : Nat := 39
abbrev impl_IsShadowOf : Nat := 40
abbrev spec_IsShadowOf : Nat := 41
abbrev laws_vHeap : Nat := 42
abbrev laws_vCells : Nat := 43
abbrev laws_vShadow : Nat := 44
abbrev impl_IsShadow : Nat := 45
abbrev spec_IsShadow : Nat := 46
abbrev laws_vWithin : Nat := 47
abbrev laws_vBelow : Nat := 48
abbrev impl_ShadowsOf : Nat := 49
abbrev impl_TakeCube : Nat := 50
abbrev spec_l1Cur_one : Nat := 51
abbrev spec_l1Cur_heap : Nat := 52
abbrev spec_l1Cur_form : Nat := 53
abbrev impl_isFilled : Nat := 54
abbrev impl_Heap_form : Nat := 55
abbrev spec_l8Some : Nat := 56
abbrev spec_l8First : Nat := 57
abbrev laws_rCells : Nat := 58
abbrev impl_Heap_positions : Nat := 59
abbrev impl_Heap_same : Nat := 60
abbrev spec_l8Symmetries : Nat := 61
abbrev impl_Heap_handed : Nat := 62
abbrev spec_l8Handed : Nat := 63
abbrev spec_TurnHeap : Nat := 64
abbrev spec_l1Cur_pick : Nat := 65
abbrev spec_l2Mirrored : Nat := 66
abbrev spec_l8Same : Nat := 67
abbrev impl_IsHeap : Nat := 68
abbrev impl_isDirection : Nat := 69
abbrev impl_Heap_moved : Nat := 70
abbrev impl_Heap_box : Nat := 71
abbrev impl_MirrorHeap_1 : Nat := 72
abbrev impl_box_mirror : Nat := 73
abbrev impl_added : Nat := 74
abbrev impl_CropHeap_1 : Nat := 75
abbrev impl_isTurn : Nat := 76
abbrev impl_turnings : Nat := 77
abbrev impl_turning_of : Nat := 78
abbrev spec_DrawIsShadow : Nat := 79
abbrev impl_Shadow_fits : Nat := 80
abbrev spec_l3Shadow : Nat := 81
abbrev spec_l3Fit : Nat := 82
abbrev impl_isFitting : Nat := 83
abbrev impl_Shadow_box : Nat := 84
abbrev impl_box_heap : Nat := 85
abbrev impl_Shadow_allowed : Nat := 86
abbrev spec_l3Allowed : Nat := 87
abbrev impl_box_list : Nat := 88
abbrev impl_Shadow_must : Nat := 89
abbrev spec_l3Parted : Nat := 90
abbrev impl_Shadow_list : Nat := 91
abbrev spec_l1Most : Nat := 92
abbrev spec_l3Lit : Nat := 93
abbrev impl_box_shadow : Nat := 94
abbrev spec_l3Of : Nat := 95
abbrev spec_l1Cur_shadow3 : Nat := 96
abbrev spec_l2Without : Nat := 97
abbrev impl_Shadow_isOf : Nat := 98
abbrev impl_Heap_cubes : Nat := 99
abbrev spec_l2Heap : Nat := 100
abbrev spec_l3Has : Nat := 101
abbrev laws_vInts : Nat := 102
abbrev impl_box_valid : Nat := 103
abbrev impl_box_lines : Nat := 104
abbrev impl_allWithin : Nat := 105
abbrev laws_vIn : Nat := 106
abbrev impl_isCell : Nat := 107
abbrev impl_Heap_hasCube : Nat := 108
abbrev impl_box_index : Nat := 109
abbrev spec_l1Cur_sides : Nat := 110
abbrev spec_l1Cur_someHeap : Nat := 111
abbrev spec_l2Box : Nat := 112
abbrev spec_l8Grown : Nat := 113
abbrev spec_l6Beside : Nat := 114
abbrev spec_l6Steps : Nat := 115
abbrev spec_l2Cropped : Nat := 116
abbrev slices_MinFunc_Simpl_Heap_impl_Heap : Nat := 117
abbrev impl_compareHeaps : Nat := 118
abbrev spec_l8Turns : Nat := 119
abbrev spec_l8Made : Nat := 120
abbrev spec_l8Less : Nat := 121
abbrev slices_Equal_SA3int_A3int : Nat := 122
abbrev spec_l8Number : Nat := 123
abbrev spec_l1Cur_next : Nat := 124
abbrev spec_l2Empty : Nat := 125
abbrev spec_l2Long : Nat := 126
abbrev spec_l2With : Nat := 127
abbrev impl_box_has : Nat := 128
abbrev impl_compareCells : Nat := 129
abbrev impl_within : Nat := 130
abbrev impl_orders : Nat := 131
abbrev impl_turning_of_1 : Nat := 132
abbrev spec_l2Sides : Nat := 133
abbrev spec_l3Ones : Nat := 134
abbrev impl_box_those : Nat := 135
abbrev impl_Shadow_allowed_1 : Nat := 136
abbrev impl_box_line : Nat := 137
abbrev spec_l2All : Nat := 138
abbrev impl_box_size : Nat := 139
abbrev impl_set_has : Nat := 140
abbrev impl_box_cell : Nat := 141
abbrev impl_Shadow_needs : Nat := 142
abbrev impl_set_count : Nat := 143
abbrev spec_l3Must : Nat := 144
abbrev impl_box_view : Nat := 145
abbrev spec_l2Top : Nat := 146
abbrev spec_l2Front : Nat := 147
abbrev spec_l2Side : Nat := 148
abbrev spec_l1Cur_among : Nat := 149
abbrev impl_Shadow_same : Nat := 150
abbrev spec_l2In : Nat := 151
abbrev spec_l2Before : Nat := 152
abbrev spec_l1Same : Nat := 153
abbrev spec_OtherCells : Nat := 154
abbrev spec_l2Stack : Nat := 155
abbrev spec_l2Heights : Nat := 156
abbrev spec_l2Has : Nat := 157
abbrev spec_l2Moved : Nat := 158
abbrev spec_l2Made : Nat := 159
abbrev spec_l1Least : Nat := 160
abbrev slices_Compare_Sint_int : Nat := 161
abbrev slices_CompareFunc_SA3int_SA3int_A3int_A3int : Nat := 162
abbrev spec_l8Odd : Nat := 163
abbrev spec_l1In : Nat := 164
abbrev spec_l2Own : Nat := 165
abbrev impl_others : Nat := 166
abbrev impl_Shadow_needs_1 : Nat := 167
abbrev math_bits_OnesCount64 : Nat := 168
abbrev spec_l2Others : Nat := 169
abbrev spec_l2View : Nat := 170
abbrev spec_l2Ones : Nat := 171
abbrev slices_Equal_Sint_int : Nat := 172
abbrev cmp_Compare_int : Nat := 173
abbrev cmp_isNaN_int : Nat := 174
abbrev runtime_boundsError_Error : Nat := 175
abbrev runtime_boundsError_RuntimeError : Nat := 176
abbrev runtime_errorString_Error : Nat := 177
abbrev runtime_errorString_RuntimeError : Nat := 178
abbrev runtime_plainError_Error : Nat := 179
abbrev runtime_plainError_RuntimeError : Nat := 180
abbrev runtime_errorAddressString_Error : Nat := 181
abbrev runtime_errorAddressString_RuntimeError : Nat := 182
abbrev runtime_TypeAssertionError_Error : Nat := 183
abbrev runtime_TypeAssertionError_RuntimeError : Nat := 184
abbrev runtime_PanicNilError_Error : Nat := 185
abbrev runtime_PanicNilError_RuntimeError : Nat := 186
abbrev internal_abi_Type_Align : Nat := 187
abbrev internal_runtime_maps_unhashableTypeError_Error : Nat := 188
abbrev internal_runtime_maps_unhashableTypeError_RuntimeError : Nat := 189
abbrev impl_Heap_euler : Nat := 190
abbrev spec_l1Cur_any1 : Nat := 191
abbrev impl_box_countStairs : Nat := 192
abbrev internal_abi_Kind_String : Nat := 193
end Go.Ab.F

/- The abstract code of some functions (written by a program of mine from the translation, by way of prepF). -/
namespace Go.Ab.C
open Go.Ab
def laws_FnShadows : AFn :=
 ⟨1, 445, [.tmp 2],
 .seq (.ops [(none, .mv 2 (.c (.B false)))])
 (.seq (.seq (.ops [(none, .mv 54 (.t 0)),
 (none, .call (some 55) F.laws_vBig [(.t 54)])])
 (.cond (.t 55) (.seq (.ops [(none, .mv 2 (.c (.B true)))])
 (.ret))
 (.skip)))
 (.seq (.ops [(none, .mv 56 (.t 0)),
 (none, .call (some 57) F.spec_DrawFitTogether [(.t 56)]),
 (none, .alloc 3 [(.I 0), (.I 0), (.I 0), .nil, .nil, .nil]),
 (none, .store 6 (.t 3) (.t 57))])
 (.seq (.ops [(none, .loadN 59 6 (.t 3)),
 (none, .call (some 60) F.impl_FitTogether [(.t 59)]),
 (none, .mv 58 (.t 60)),
 (none, .extract 61 (.t 58) 0),
 (none, .extract 62 (.t 58) 1),
 (none, .mv 4 (.t 61)),
 (none, .mv 5 (.t 62))])
 (.seq (.ops [(none, .loadN 64 6 (.t 3)),
 (none, .call (some 65) F.spec_FitTogether [(.t 64)]),
 (none, .mv 63 (.t 65)),
 (none, .extract 66 (.t 63) 0),
 (none, .extract 67 (.t 63) 1),
 (none, .mv 6 (.t 66)),
 (none, .mv 7 (.t 67))])
 (.seq (.ops [(none, .loadN 69 6 (.t 3)),
 (none, .call (some 70) F.impl_GreatestHeap [(.t 69)]),
 (none, .mv 68 (.t 70)),
 (none, .extract 71 (.t 68) 0),
 (none, .extract 72 (.t 68) 1),
 (none, .alloc 8 [(.I 0), (.I 0), (.I 0), .nil]),
 (none, .store 4 (.t 8) (.t 71)),
 (none, .mv 9 (.t 72))])
 (.seq (.ops [(none, .loadN 74 6 (.t 3)),
 (none, .call (some 75) F.spec_GreatestHeap [(.t 74)]),
 (none, .mv 73 (.t 75)),
 (none, .extract 76 (.t 73) 0),
 (none, .extract 77 (.t 73) 1),
 (none, .alloc 10 [(.I 0), (.I 0), (.I 0), .nil]),
 (none, .store 4 (.t 10) (.t 76)),
 (none, .mv 11 (.t 77))])
 (.seq (.ops [(none, .loadN 79 6 (.t 3)),
 (none, .call (some 80) F.impl_MustCells [(.t 79)]),
 (none, .mv 78 (.t 80)),
 (none, .extract 81 (.t 78) 0),
 (none, .extract 82 (.t 78) 1),
 (none, .mv 12 (.t 81)),
 (none, .mv 13 (.t 82))])
 (.seq (.ops [(none, .loadN 84 6 (.t 3)),
 (none, .call (some 85) F.spec_MustCells [(.t 84)]),
 (none, .mv 83 (.t 85)),
 (none, .extract 86 (.t 83) 0),
 (none, .extract 87 (.t 83) 1),
 (none, .mv 14 (.t 86)),
 (none, .mv 15 (.t 87))])
 (.seq (.ops [(none, .loadN 89 6 (.t 3)),
 (none, .call (some 90) F.impl_SpareCells [(.t 89)]),
 (none, .mv 88 (.t 90)),
 (none, .extract 91 (.t 88) 0),
 (none, .extract 92 (.t 88) 1),
 (none, .mv 16 (.t 91)),
 (none, .mv 17 (.t 92))])
 (.seq (.ops [(none, .loadN 94 6 (.t 3)),
 (none, .call (some 95) F.spec_SpareCells [(.t 94)]),
 (none, .mv 93 (.t 95)),
 (none, .extract 96 (.t 93) 0),
 (none, .extract 97 (.t 93) 1),
 (none, .mv 18 (.t 96)),
 (none, .mv 19 (.t 97))])
 (.seq (.ops [(none, .loadN 99 6 (.t 3)),
 (none, .call (some 100) F.impl_LineBound [(.t 99)]),
 (none, .mv 98 (.t 100)),
 (none, .extract 101 (.t 98) 0),
 (none, .extract 102 (.t 98) 1),
 (none, .mv 20 (.t 101)),
 (none, .mv 21 (.t 102))])
 (.seq (.ops [(none, .loadN 104 6 (.t 3)),
 (none, .call (some 105) F.spec_LineBound [(.t 104)]),
 (none, .mv 103 (.t 105)),
 (none, .extract 106 (.t 103) 0),
 (none, .extract 107 (.t 103) 1),
 (none, .mv 22 (.t 106)),
 (none, .mv 23 (.t 107))])
 (.seq (.ops [(none, .loadN 109 6 (.t 3)),
 (none, .call (some 110) F.impl_CleanShadow [(.t 109)]),
 (none, .mv 108 (.t 110)),
 (none, .extract 111 (.t 108) 0),
 (none, .extract 112 (.t 108) 1),
 (none, .alloc 24 [(.I 0), (.I 0), (.I 0), .nil, .nil, .nil]),
 (none, .store 6 (.t 24) (.t 111)),
 (none, .mv 25 (.t 112))])
 (.seq (.ops [(none, .loadN 114 6 (.t 3)),
 (none, .call (some 115) F.spec_CleanShadow [(.t 114)]),
 (none, .mv 113 (.t 115)),
 (none, .extract 116 (.t 113) 0),
 (none, .extract 117 (.t 113) 1),
 (none, .alloc 26 [(.I 0), (.I 0), (.I 0), .nil, .nil, .nil]),
 (none, .store 6 (.t 26) (.t 116)),
 (none, .mv 27 (.t 117))])
 (.seq (.ops [(none, .mv 119 (.t 0)),
 (none, .call (some 120) F.laws_vCut [(.t 119), (.c (.I 1))]),
 (none, .call (some 121) F.spec_DrawIsShadowOf [(.t 120)]),
 (none, .mv 118 (.t 121)),
 (none, .extract 122 (.t 118) 0),
 (none, .extract 123 (.t 118) 1),
 (none, .alloc 28 [(.I 0), (.I 0), (.I 0), .nil, .nil, .nil]),
 (none, .alloc 29 [(.I 0), (.I 0), (.I 0), .nil]),
 (none, .store 6 (.t 28) (.t 122)),
 (none, .store 4 (.t 29) (.t 123))])
 (.seq (.ops [(none, .loadN 125 6 (.t 28)),
 (none, .loadN 126 4 (.t 29)),
 (none, .call (some 127) F.impl_IsShadowOf [(.t 125), (.t 126)]),
 (none, .mv 124 (.t 127)),
 (none, .extract 128 (.t 124) 0),
 (none, .extract 129 (.t 124) 1),
 (none, .mv 30 (.t 128)),
 (none, .mv 31 (.t 129))])
 (.seq (.ops [(none, .loadN 131 6 (.t 28)),
 (none, .loadN 132 4 (.t 29)),
 (none, .call (some 133) F.spec_IsShadowOf [(.t 131), (.t 132)]),
 (none, .mv 130 (.t 133)),
 (none, .extract 134 (.t 130) 0),
 (none, .extract 135 (.t 130) 1),
 (none, .mv 32 (.t 134)),
 (none, .mv 33 (.t 135))])
 (.seq (.seq (.draw [⟨(none, .mv 136 (.t 4)), [], []⟩,
 ⟨(none, .mv 137 (.t 6)), [], []⟩,
 ⟨(none, .eqb 138 true (.t 136) (.t 137)), [], []⟩,
 ⟨(none, .mv 139 (.t 138)), [], []⟩,
 ⟨(some (139, false), .mv 140 (.t 5)), [], []⟩,
 ⟨(some (139, false), .mv 141 (.t 7)), [], []⟩,
 ⟨(some (139, false), .eqb 142 true (.t 140) (.t 141)), [], []⟩,
 ⟨(none, .pick 143 (.t 139) (.c (.B true)) (.t 142)), [], []⟩,
 ⟨(none, .mv 144 (.t 143)), [], []⟩,
 ⟨(some (144, false), .mv 145 (.t 9)), [], []⟩,
 ⟨(some (144, false), .mv 146 (.t 11)), [], []⟩,
 ⟨(some (144, false), .eqb 147 true (.t 145) (.t 146)), [], []⟩,
 ⟨(none, .pick 148 (.t 144) (.c (.B true)) (.t 147)), [], []⟩,
 ⟨(none, .mv 149 (.t 148)), [], []⟩,
 ⟨(some (149, false), .loadN 150 4 (.t 8)), [], []⟩,
 ⟨(some (149, false), .loadN 151 4 (.t 10)), [], []⟩,
 ⟨(some (149, false), .call (some 152) F.laws_vHeap [(.t 150), (.t 151)]), [], []⟩,
 ⟨(some (149, false), .un 153 .not (.t 152)), [], []⟩,
 ⟨(none, .pick 154 (.t 149) (.c (.B true)) (.t 153)), [], []⟩,
 ⟨(none, .mv 155 (.t 154)), [], []⟩,
 ⟨(some (155, false), .mv 156 (.t 13)), [], []⟩,
 ⟨(some (155, false), .mv 157 (.t 15)), [], []⟩,
 ⟨(some (155, false), .eqb 158 true (.t 156) (.t 157)), [], []⟩,
 ⟨(none, .pick 159 (.t 155) (.c (.B true)) (.t 158)), [], []⟩,
 ⟨(none, .mv 160 (.t 159)), [], []⟩,
 ⟨(some (160, false), .mv 161 (.t 12)), [], []⟩,
 ⟨(some (160, false), .mv 162 (.t 14)), [], []⟩,
 ⟨(some (160, false), .call (some 163) F.laws_vCells [(.t 161), (.t 162)]), [], []⟩,
 ⟨(some (160, false), .un 164 .not (.t 163)), [], []⟩,
 ⟨(none, .pick 165 (.t 160) (.c (.B true)) (.t 164)), [], []⟩,
 ⟨(none, .mv 166 (.t 165)), [], []⟩,
 ⟨(some (166, false), .mv 167 (.t 17)), [], []⟩,
 ⟨(some (166, false), .mv 168 (.t 19)), [], []⟩,
 ⟨(some (166, false), .eqb 169 true (.t 167) (.t 168)), [], []⟩,
 ⟨(none, .pick 170 (.t 166) (.c (.B true)) (.t 169)), [], []⟩,
 ⟨(none, .mv 171 (.t 170)), [], []⟩,
 ⟨(some (171, false), .mv 172 (.t 16)), [], []⟩,
 ⟨(some (171, false), .mv 173 (.t 18)), [], []⟩,
 ⟨(some (171, false), .call (some 174) F.laws_vCells [(.t 172), (.t 173)]), [], []⟩,
 ⟨(some (171, false), .un 175 .not (.t 174)), [], []⟩,
 ⟨(none, .pick 176 (.t 171) (.c (.B true)) (.t 175)), [], []⟩,
 ⟨(none, .mv 177 (.t 176)), [], []⟩,
 ⟨(some (177, false), .mv 178 (.t 20)), [], []⟩,
 ⟨(some (177, false), .mv 179 (.t 22)), [], []⟩,
 ⟨(some (177, false), .bin 180 .neq (.t 178) (.t 179)), [], []⟩,
 ⟨(none, .pick 181 (.t 177) (.c (.B true)) (.t 180)), [], []⟩,
 ⟨(none, .mv 182 (.t 181)), [], []⟩,
 ⟨(some (182, false), .mv 183 (.t 21)), [], []⟩,
 ⟨(some (182, false), .mv 184 (.t 23)), [], []⟩,
 ⟨(some (182, false), .eqb 185 true (.t 183) (.t 184)), [], []⟩,
 ⟨(none, .pick 186 (.t 182) (.c (.B true)) (.t 185)), [], []⟩,
 ⟨(none, .mv 187 (.t 186)), [], []⟩,
 ⟨(some (187, false), .mv 188 (.t 25)), [], []⟩,
 ⟨(some (187, false), .mv 189 (.t 27)), [], []⟩,
 ⟨(some (187, false), .eqb 190 true (.t 188) (.t 189)), [], []⟩,
 ⟨(none, .pick 191 (.t 187) (.c (.B true)) (.t 190)), [], []⟩,
 ⟨(none, .mv 192 (.t 191)), [], []⟩,
 ⟨(some (192, false), .loadN 193 6 (.t 24)), [], []⟩,
 ⟨(some (192, false), .loadN 194 6 (.t 26)), [], []⟩,
 ⟨(some (192, false), .call (some 195) F.laws_vShadow [(.t 193), (.t 194)]), [], []⟩,
 ⟨(some (192, false), .un 196 .not (.t 195)), [], []⟩,
 ⟨(none, .pick 197 (.t 192) (.c (.B true)) (.t 196)), [], []⟩,
 ⟨(none, .mv 198 (.t 197)), [], []⟩,
 ⟨(some (198, false), .mv 199 (.t 30)), [], []⟩,
 ⟨(some (198, false), .mv 200 (.t 32)), [], []⟩,
 ⟨(some (198, false), .eqb 201 true (.t 199) (.t 200)), [], []⟩,
 ⟨(none, .pick 202 (.t 198) (.c (.B true)) (.t 201)), [], []⟩,
 ⟨(none, .mv 203 (.t 202)), [], []⟩,
 ⟨(some (203, false), .mv 204 (.t 31)), [], []⟩,
 ⟨(some (203, false), .mv 205 (.t 33)), [], []⟩,
 ⟨(some (203, false), .eqb 206 true (.t 204) (.t 205)), [], []⟩,
 ⟨(none, .pick 207 (.t 203) (.c (.B true)) (.t 206)), [], []⟩,
 ⟨(none, .mv 208 (.t 207)), [], []⟩,
 ⟨(some (208, false), .loadN 209 6 (.t 3)), [], []⟩,
 ⟨(some (208, false), .loadN 211 6 (.t 3)), [], []⟩,
 ⟨(some (208, false), .call (some 210) F.impl_IsShadow [(.t 209)]), [], [74]⟩,
 ⟨(some (208, false), .call (some 212) F.spec_IsShadow [(.t 211)]), [], []⟩,
 ⟨(some (208, false), .eqb 213 true (.t 210) (.t 212)), [], []⟩,
 ⟨(none, .pick 214 (.t 208) (.c (.B true)) (.t 213)), [], []⟩,
 ⟨(none, .mv 215 (.t 214)), [], []⟩,
 ⟨(some (215, false), .mv 216 (.t 5)), [], []⟩,
 ⟨(some (215, false), .loadN 217 6 (.t 3)), [], []⟩,
 ⟨(some (215, false), .call (some 218) F.impl_IsShadow [(.t 217)]), [], [80]⟩,
 ⟨(some (215, false), .eqb 219 true (.t 216) (.t 218)), [], []⟩,
 ⟨(none, .pick 220 (.t 215) (.c (.B true)) (.t 219)), [], []⟩,
 ⟨(none, .mv 221 (.t 220)), [], []⟩,
 ⟨(some (221, false), .mv 222 (.t 5)), [], []⟩,
 ⟨(some (221, false), .mv 223 (.t 21)), [], []⟩,
 ⟨(some (221, false), .eqb 224 true (.t 222) (.t 223)), [], []⟩,
 ⟨(none, .pick 225 (.t 221) (.c (.B true)) (.t 224)), [], []⟩,
 ⟨(none, .mv 226 (.t 225)), [], []⟩,
 ⟨(some (226, false), .mv 227 (.t 5)), [], []⟩,
 ⟨(some (226, false), .mv 228 (.t 25)), [], []⟩,
 ⟨(some (226, false), .eqb 229 true (.t 227) (.t 228)), [], []⟩,
 ⟨(none, .pick 230 (.t 226) (.c (.B true)) (.t 229)), [], []⟩,
 ⟨(none, .mv 231 (.t 230)), [], []⟩,
 ⟨(some (231, false), .mv 232 (.t 9)), [], []⟩,
 ⟨(some (231, false), .mv 233 (.t 5)), [], []⟩,
 ⟨(some (231, false), .mv 234 (.t 233)), [], []⟩,
 ⟨(some (234, true), .mv 235 (.t 4)), [], []⟩,
 ⟨(some (231, false), .pick 236 (.t 234) (.t 235) (.c (.B false))), [], []⟩,
 ⟨(some (231, false), .eqb 237 true (.t 232) (.t 236)), [], []⟩,
 ⟨(none, .pick 238 (.t 231) (.c (.B true)) (.t 237)), [], []⟩,
 ⟨(none, .mv 239 (.t 238)), [], []⟩,
 ⟨(some (239, false), .mv 240 (.t 9)), [], []⟩,
 ⟨(some (239, false), .mv 241 (.t 13)), [], []⟩,
 ⟨(some (239, false), .eqb 242 true (.t 240) (.t 241)), [], []⟩,
 ⟨(none, .pick 243 (.t 239) (.c (.B true)) (.t 242)), [], []⟩,
 ⟨(none, .mv 244 (.t 243)), [], []⟩,
 ⟨(some (244, false), .mv 245 (.t 9)), [], []⟩,
 ⟨(some (244, false), .mv 246 (.t 17)), [], []⟩,
 ⟨(some (244, false), .eqb 247 true (.t 245) (.t 246)), [], []⟩,
 ⟨(none, .pick 248 (.t 244) (.c (.B true)) (.t 247)), [], []⟩])
 (.cond (.t 248) (.seq (.ops [(none, .mv 2 (.c (.B false)))])
 (.ret))
 (.skip)))
 (.seq (.seq (.ops [(none, .mv 249 (.t 31)),
 (none, .mv 250 (.t 249)),
 (some (250, true), .mv 251 (.t 30)),
 (none, .pick 252 (.t 250) (.t 251) (.c (.B false)))])
 (.cond (.t 252) (.seq (.ops [(none, .loadN 254 6 (.t 28)),
 (none, .call (some 255) F.impl_GreatestHeap [(.t 254)]),
 (none, .mv 253 (.t 255)),
 (none, .extract 256 (.t 253) 0),
 (none, .extract 257 (.t 253) 1),
 (none, .alloc 34 [(.I 0), (.I 0), (.I 0), .nil]),
 (none, .store 4 (.t 34) (.t 256)),
 (none, .mv 35 (.t 257))])
 (.seq (.ops [(none, .loadN 259 6 (.t 28)),
 (none, .call (some 260) F.impl_MustCells [(.t 259)]),
 (none, .mv 258 (.t 260)),
 (none, .extract 261 (.t 258) 0),
 (none, .extract 262 (.t 258) 1),
 (none, .mv 36 (.t 261)),
 (none, .mv 37 (.t 262))])
 (.seq (.ops [(none, .loadN 264 6 (.t 28)),
 (none, .call (some 265) F.impl_LineBound [(.t 264)]),
 (none, .mv 263 (.t 265)),
 (none, .extract 266 (.t 263) 0),
 (none, .extract 267 (.t 263) 1),
 (none, .mv 38 (.t 266)),
 (none, .mv 39 (.t 267))])
 (.seq (.ops [(none, .mv 268 (.t 35)),
 (none, .un 269 .not (.t 268)),
 (none, .mv 270 (.t 269)),
 (some (270, false), .mv 271 (.t 37)),
 (some (270, false), .un 272 .not (.t 271)),
 (none, .pick 273 (.t 270) (.c (.B true)) (.t 272)),
 (none, .mv 274 (.t 273)),
 (some (274, false), .mv 275 (.t 39)),
 (some (274, false), .un 276 .not (.t 275)),
 (none, .pick 277 (.t 274) (.c (.B true)) (.t 276)),
 (none, .mv 278 (.t 277)),
 (some (278, false), .fieldAddr 279 (.t 29) 3),
 (some (278, false), .load1 280 (.t 279)),
 (some (278, false), .fieldAddr 281 (.t 34) 3),
 (some (278, false), .load1 282 (.t 281)),
 (some (278, false), .call (some 283) F.laws_vWithin [(.t 280), (.t 282)]),
 (some (278, false), .un 284 .not (.t 283)),
 (none, .pick 285 (.t 278) (.c (.B true)) (.t 284)),
 (none, .mv 286 (.t 285)),
 (some (286, false), .mv 287 (.t 36)),
 (some (286, false), .fieldAddr 288 (.t 29) 3),
 (some (286, false), .load1 289 (.t 288)),
 (some (286, false), .call (some 290) F.laws_vWithin [(.t 287), (.t 289)]),
 (some (286, false), .un 291 .not (.t 290)),
 (none, .pick 292 (.t 286) (.c (.B true)) (.t 291)),
 (none, .mv 293 (.t 292)),
 (some (293, false), .fieldAddr 294 (.t 29) 3),
 (some (293, false), .load1 295 (.t 294)),
 (some (293, false), .len 296 (.t 295)),
 (some (293, false), .mv 297 (.t 38)),
 (some (293, false), .bin 298 .lss (.t 296) (.t 297)),
 (none, .pick 299 (.t 293) (.c (.B true)) (.t 298))])
 (.cond (.t 299) (.seq (.ops [(none, .mv 2 (.c (.B false)))])
 (.ret))
 (.skip))))))
 (.skip)))
 (.seq (.seq (.ops [(none, .mv 300 (.t 5)),
 (none, .un 301 .not (.t 300))])
 (.cond (.t 301) (.seq (.ops [(none, .mv 2 (.c (.B true)))])
 (.ret))
 (.skip)))
 (.seq (.ops [(none, .loadN 303 6 (.t 24)),
 (none, .call (some 304) F.impl_FitTogether [(.t 303)]),
 (none, .mv 302 (.t 304)),
 (none, .extract 305 (.t 302) 0),
 (none, .extract 306 (.t 302) 1),
 (none, .mv 40 (.t 305)),
 (none, .mv 41 (.t 306))])
 (.seq (.seq (.ops [(none, .mv 307 (.t 41)),
 (none, .un 308 .not (.t 307)),
 (none, .mv 309 (.t 308)),
 (some (309, false), .mv 310 (.t 40)),
 (some (309, false), .un 311 .not (.t 310)),
 (none, .pick 312 (.t 309) (.c (.B true)) (.t 311)),
 (none, .mv 313 (.t 312)),
 (some (313, false), .fieldAddr 314 (.t 24) 3),
 (some (313, false), .load1 315 (.t 314)),
 (some (313, false), .fieldAddr 316 (.t 3) 3),
 (some (313, false), .load1 317 (.t 316)),
 (some (313, false), .call (some 318) F.laws_vBelow [(.t 315), (.t 317)]),
 (some (313, false), .un 319 .not (.t 318)),
 (none, .pick 320 (.t 313) (.c (.B true)) (.t 319)),
 (none, .mv 321 (.t 320)),
 (some (321, false), .fieldAddr 322 (.t 24) 4),
 (some (321, false), .load1 323 (.t 322)),
 (some (321, false), .fieldAddr 324 (.t 3) 4),
 (some (321, false), .load1 325 (.t 324)),
 (some (321, false), .call (some 326) F.laws_vBelow [(.t 323), (.t 325)]),
 (some (321, false), .un 327 .not (.t 326)),
 (none, .pick 328 (.t 321) (.c (.B true)) (.t 327)),
 (none, .mv 329 (.t 328)),
 (some (329, false), .fieldAddr 330 (.t 24) 5),
 (some (329, false), .load1 331 (.t 330)),
 (some (329, false), .fieldAddr 332 (.t 3) 5),
 (some (329, false), .load1 333 (.t 332)),
 (some (329, false), .call (some 334) F.laws_vBelow [(.t 331), (.t 333)]),
 (some (329, false), .un 335 .not (.t 334)),
 (none, .pick 336 (.t 329) (.c (.B true)) (.t 335)),
 (none, .mv 337 (.t 336)),
 (some (337, false), .mv 338 (.t 4)),
 (some (337, false), .loadN 339 6 (.t 24)),
 (some (337, false), .loadN 340 6 (.t 3)),
 (some (337, false), .call (some 341) F.laws_vShadow [(.t 339), (.t 340)]),
 (some (337, false), .eqb 342 true (.t 338) (.t 341)),
 (none, .pick 343 (.t 337) (.c (.B true)) (.t 342))])
 (.cond (.t 343) (.seq (.ops [(none, .mv 2 (.c (.B false)))])
 (.ret))
 (.skip)))
 (.seq (.seq (.ops [(none, .mv 344 (.t 9)),
 (none, .un 345 .not (.t 344))])
 (.cond (.t 345) (.seq (.ops [(none, .mv 2 (.c (.B true)))])
 (.ret))
 (.skip)))
 (.seq (.ops [(none, .loadN 347 4 (.t 8)),
 (none, .call (some 348) F.impl_ShadowsOf [(.t 347)]),
 (none, .mv 346 (.t 348)),
 (none, .extract 349 (.t 346) 0),
 (none, .extract 350 (.t 346) 1),
 (none, .alloc 42 [(.I 0), (.I 0), (.I 0), .nil, .nil, .nil]),
 (none, .store 6 (.t 42) (.t 349)),
 (none, .mv 43 (.t 350))])
 (.seq (.seq (.ops [(none, .mv 351 (.t 43)),
 (none, .un 352 .not (.t 351)),
 (none, .mv 353 (.t 352)),
 (some (353, false), .loadN 354 6 (.t 42)),
 (some (353, false), .loadN 355 6 (.t 3)),
 (some (353, false), .call (some 356) F.laws_vShadow [(.t 354), (.t 355)]),
 (some (353, false), .un 357 .not (.t 356)),
 (none, .pick 358 (.t 353) (.c (.B true)) (.t 357)),
 (none, .mv 359 (.t 358)),
 (some (359, false), .fieldAddr 360 (.t 8) 3),
 (some (359, false), .load1 361 (.t 360)),
 (some (359, false), .len 362 (.t 361)),
 (some (359, false), .mv 363 (.t 12)),
 (some (359, false), .len 364 (.t 363)),
 (some (359, false), .mv 365 (.t 16)),
 (some (359, false), .len 366 (.t 365)),
 (some (359, false), .bin 367 .add (.t 364) (.t 366)),
 (some (359, false), .bin 368 .neq (.t 362) (.t 367)),
 (none, .pick 369 (.t 359) (.c (.B true)) (.t 368)),
 (none, .mv 370 (.t 369)),
 (some (370, false), .mv 371 (.t 12)),
 (some (370, false), .fieldAddr 372 (.t 8) 3),
 (some (370, false), .load1 373 (.t 372)),
 (some (370, false), .call (some 374) F.laws_vWithin [(.t 371), (.t 373)]),
 (some (370, false), .un 375 .not (.t 374)),
 (none, .pick 376 (.t 370) (.c (.B true)) (.t 375)),
 (none, .mv 377 (.t 376)),
 (some (377, false), .mv 378 (.t 16)),
 (some (377, false), .fieldAddr 379 (.t 8) 3),
 (some (377, false), .load1 380 (.t 379)),
 (some (377, false), .call (some 381) F.laws_vWithin [(.t 378), (.t 380)]),
 (some (377, false), .un 382 .not (.t 381)),
 (none, .pick 383 (.t 377) (.c (.B true)) (.t 382))])
 (.cond (.t 383) (.seq (.ops [(none, .mv 2 (.c (.B false)))])
 (.ret))
 (.skip)))
 (.seq (.seq (.ops [(none, .mv 44 (.c (.I 0)))])
 (.block 0 (.loop (.seq (.seq (.ops [(none, .mv 384 (.t 44)),
 (none, .mv 385 (.t 16)),
 (none, .len 386 (.t 385)),
 (none, .bin 387 .lss (.t 384) (.t 386))])
 (.cond (.t 387) (.skip)
 (.exit 0)))
 (.seq (.block 1 (.seq (.draw [⟨(none, .loadN 391 4 (.t 8)), [], []⟩,
 ⟨(none, .mv 392 (.t 16)), [], []⟩,
 ⟨(none, .mv 393 (.t 44)), [], []⟩,
 ⟨(none, .idxS 394 3 (.t 392) (.t 393)), [], []⟩,
 ⟨(none, .loadN 395 3 (.t 394)), [], []⟩,
 ⟨(none, .alloc 45 [(.I 0), (.I 0), (.I 0), .nil]), [], []⟩,
 ⟨(none, .call (some 396) F.impl_TakeCube [(.t 391), (.t 395)]), [5], []⟩,
 ⟨(none, .mv 390 (.t 396)), [], []⟩,
 ⟨(none, .extract 397 (.t 390) 0), [], []⟩,
 ⟨(none, .extract 398 (.t 390) 1), [], []⟩,
 ⟨(none, .store 4 (.t 45) (.t 397)), [], [9]⟩,
 ⟨(none, .mv 46 (.t 398)), [], []⟩])
 (.seq (.ops [(none, .loadN 400 6 (.t 3)),
 (none, .loadN 401 4 (.t 45)),
 (none, .call (some 402) F.impl_IsShadowOf [(.t 400), (.t 401)]),
 (none, .mv 399 (.t 402)),
 (none, .extract 403 (.t 399) 0),
 (none, .extract 404 (.t 399) 1),
 (none, .mv 47 (.t 403)),
 (none, .mv 48 (.t 404))])
 (.seq (.ops [(none, .mv 405 (.t 46)),
 (none, .un 406 .not (.t 405)),
 (none, .mv 407 (.t 406)),
 (some (407, false), .mv 408 (.t 48)),
 (some (407, false), .un 409 .not (.t 408)),
 (none, .pick 410 (.t 407) (.c (.B true)) (.t 409)),
 (none, .mv 411 (.t 410)),
 (some (411, false), .mv 412 (.t 47)),
 (some (411, false), .un 413 .not (.t 412)),
 (none, .pick 414 (.t 411) (.c (.B true)) (.t 413))])
 (.cond (.t 414) (.seq (.ops [(none, .mv 2 (.c (.B false)))])
 (.ret))
 (.skip))))))
 (.ops [(none, .mv 388 (.t 44)),
 (none, .bin 389 .add (.t 388) (.c (.I 1))),
 (none, .mv 44 (.t 389))]))))))
 (.seq (.seq (.ops [(none, .mv 49 (.c (.I 0)))])
 (.block 2 (.loop (.seq (.seq (.ops [(none, .mv 415 (.t 49)),
 (none, .mv 416 (.t 12)),
 (none, .len 417 (.t 416)),
 (none, .bin 418 .lss (.t 415) (.t 417))])
 (.cond (.t 418) (.skip)
 (.exit 2)))
 (.seq (.block 3 (.seq (.draw [⟨(none, .loadN 422 4 (.t 8)), [], []⟩,
 ⟨(none, .mv 423 (.t 12)), [], []⟩,
 ⟨(none, .mv 424 (.t 49)), [], []⟩,
 ⟨(none, .idxS 425 3 (.t 423) (.t 424)), [], []⟩,
 ⟨(none, .loadN 426 3 (.t 425)), [], []⟩,
 ⟨(none, .alloc 50 [(.I 0), (.I 0), (.I 0), .nil]), [], []⟩,
 ⟨(none, .call (some 427) F.impl_TakeCube [(.t 422), (.t 426)]), [5], []⟩,
 ⟨(none, .mv 421 (.t 427)), [], []⟩,
 ⟨(none, .extract 428 (.t 421) 0), [], []⟩,
 ⟨(none, .extract 429 (.t 421) 1), [], []⟩,
 ⟨(none, .store 4 (.t 50) (.t 428)), [], [9]⟩,
 ⟨(none, .mv 51 (.t 429)), [], []⟩])
 (.seq (.ops [(none, .loadN 431 6 (.t 3)),
 (none, .loadN 432 4 (.t 50)),
 (none, .call (some 433) F.impl_IsShadowOf [(.t 431), (.t 432)]),
 (none, .mv 430 (.t 433)),
 (none, .extract 434 (.t 430) 0),
 (none, .extract 435 (.t 430) 1),
 (none, .mv 52 (.t 434)),
 (none, .mv 53 (.t 435))])
 (.seq (.ops [(none, .mv 436 (.t 51)),
 (none, .un 437 .not (.t 436)),
 (none, .mv 438 (.t 437)),
 (some (438, false), .mv 439 (.t 53)),
 (some (438, false), .un 440 .not (.t 439)),
 (none, .pick 441 (.t 438) (.c (.B true)) (.t 440)),
 (none, .mv 442 (.t 441)),
 (some (442, false), .mv 443 (.t 52)),
 (none, .pick 444 (.t 442) (.c (.B true)) (.t 443))])
 (.cond (.t 444) (.seq (.ops [(none, .mv 2 (.c (.B false)))])
 (.ret))
 (.skip))))))
 (.ops [(none, .mv 419 (.t 49)),
 (none, .bin 420 .add (.t 419) (.c (.I 1))),
 (none, .mv 49 (.t 420))]))))))
 (.seq (.ops [(none, .mv 2 (.c (.B true)))])
 (.ret)))))))))))))))))))))))))))))⟩
end Go.Ab.C

/- That the program has this code. -/
namespace Go.Ab.K
open Go Go.Ab
def laws_FnShadows_gs : List GOp := [(none, .mv 136 (.t 4)), (none, .mv 137 (.t 6)), (none, .eqb 138 true (.t 136) (.t 137)), (none, .mv 139 (.t 138)), (some (139, false), .mv 140 (.t 5)), (some (139, false), .mv 141 (.t 7)), (some (139, false), .eqb 142 true (.t 140) (.t 141)), (none, .pick 143 (.t 139) (.c (.B true)) (.t 142)), (none, .mv 144 (.t 143)), (some (144, false), .mv 145 (.t 9)), (some (144, false), .mv 146 (.t 11)), (some (144, false), .eqb 147 true (.t 145) (.t 146)), (none, .pick 148 (.t 144) (.c (.B true)) (.t 147)), (none, .mv 149 (.t 148)), (some (149, false), .loadN 150 4 (.t 8)), (some (149, false), .loadN 151 4 (.t 10)), (some (149, false), .call (some 152) F.laws_vHeap [(.t 150), (.t 151)]), (some (149, false), .un 153 .not (.t 152)), (none, .pick 154 (.t 149) (.c (.B true)) (.t 153)), (none, .mv 155 (.t 154)), (some (155, false), .mv 156 (.t 13)), (some (155, false), .mv 157 (.t 15)), (some (155, false), .eqb 158 true (.t 156) (.t 157)), (none, .pick 159 (.t 155) (.c (.B true)) (.t 158)), (none, .mv 160 (.t 159)), (some (160, false), .mv 161 (.t 12)), (some (160, false), .mv 162 (.t 14)), (some (160, false), .call (some 163) F.laws_vCells [(.t 161), (.t 162)]), (some (160, false), .un 164 .not (.t 163)), (none, .pick 165 (.t 160) (.c (.B true)) (.t 164)), (none, .mv 166 (.t 165)), (some (166, false), .mv 167 (.t 17)), (some (166, false), .mv 168 (.t 19)), (some (166, false), .eqb 169 true (.t 167) (.t 168)), (none, .pick 170 (.t 166) (.c (.B true)) (.t 169)), (none, .mv 171 (.t 170)), (some (171, false), .mv 172 (.t 16)), (some (171, false), .mv 173 (.t 18)), (some (171, false), .call (some 174) F.laws_vCells [(.t 172), (.t 173)]), (some (171, false), .un 175 .not (.t 174)), (none, .pick 176 (.t 171) (.c (.B true)) (.t 175)), (none, .mv 177 (.t 176)), (some (177, false), .mv 178 (.t 20)), (some (177, false), .mv 179 (.t 22)), (some (177, false), .bin 180 .neq (.t 178) (.t 179)), (none, .pick 181 (.t 177) (.c (.B true)) (.t 180)), (none, .mv 182 (.t 181)), (some (182, false), .mv 183 (.t 21)), (some (182, false), .mv 184 (.t 23)), (some (182, false), .eqb 185 true (.t 183) (.t 184)), (none, .pick 186 (.t 182) (.c (.B true)) (.t 185)), (none, .mv 187 (.t 186)), (some (187, false), .mv 188 (.t 25)), (some (187, false), .mv 189 (.t 27)), (some (187, false), .eqb 190 true (.t 188) (.t 189)), (none, .pick 191 (.t 187) (.c (.B true)) (.t 190)), (none, .mv 192 (.t 191)), (some (192, false), .loadN 193 6 (.t 24)), (some (192, false), .loadN 194 6 (.t 26)), (some (192, false), .call (some 195) F.laws_vShadow [(.t 193), (.t 194)]), (some (192, false), .un 196 .not (.t 195)), (none, .pick 197 (.t 192) (.c (.B true)) (.t 196)), (none, .mv 198 (.t 197)), (some (198, false), .mv 199 (.t 30)), (some (198, false), .mv 200 (.t 32)), (some (198, false), .eqb 201 true (.t 199) (.t 200)), (none, .pick 202 (.t 198) (.c (.B true)) (.t 201)), (none, .mv 203 (.t 202)), (some (203, false), .mv 204 (.t 31)), (some (203, false), .mv 205 (.t 33)), (some (203, false), .eqb 206 true (.t 204) (.t 205)), (none, .pick 207 (.t 203) (.c (.B true)) (.t 206)), (none, .mv 208 (.t 207)), (some (208, false), .loadN 209 6 (.t 3)), (some (208, false), .call (some 210) F.impl_IsShadow [(.t 209)]), (some (208, false), .loadN 211 6 (.t 3)), (some (208, false), .call (some 212) F.spec_IsShadow [(.t 211)]), (some (208, false), .eqb 213 true (.t 210) (.t 212)), (none, .pick 214 (.t 208) (.c (.B true)) (.t 213)), (none, .mv 215 (.t 214)), (some (215, false), .mv 216 (.t 5)), (some (215, false), .loadN 217 6 (.t 3)), (some (215, false), .call (some 218) F.impl_IsShadow [(.t 217)]), (some (215, false), .eqb 219 true (.t 216) (.t 218)), (none, .pick 220 (.t 215) (.c (.B true)) (.t 219)), (none, .mv 221 (.t 220)), (some (221, false), .mv 222 (.t 5)), (some (221, false), .mv 223 (.t 21)), (some (221, false), .eqb 224 true (.t 222) (.t 223)), (none, .pick 225 (.t 221) (.c (.B true)) (.t 224)), (none, .mv 226 (.t 225)), (some (226, false), .mv 227 (.t 5)), (some (226, false), .mv 228 (.t 25)), (some (226, false), .eqb 229 true (.t 227) (.t 228)), (none, .pick 230 (.t 226) (.c (.B true)) (.t 229)), (none, .mv 231 (.t 230)), (some (231, false), .mv 232 (.t 9)), (some (231, false), .mv 233 (.t 5)), (some (231, false), .mv 234 (.t 233)), (some (234, true), .mv 235 (.t 4)), (some (231, false), .pick 236 (.t 234) (.t 235) (.c (.B false))), (some (231, false), .eqb 237 true (.t 232) (.t 236)), (none, .pick 238 (.t 231) (.c (.B true)) (.t 237)), (none, .mv 239 (.t 238)), (some (239, false), .mv 240 (.t 9)), (some (239, false), .mv 241 (.t 13)), (some (239, false), .eqb 242 true (.t 240) (.t 241)), (none, .pick 243 (.t 239) (.c (.B true)) (.t 242)), (none, .mv 244 (.t 243)), (some (244, false), .mv 245 (.t 9)), (some (244, false), .mv 246 (.t 17)), (some (244, false), .eqb 247 true (.t 245) (.t 246)), (none, .pick 248 (.t 244) (.c (.B true)) (.t 247))]
def laws_FnShadows_es : List (List Nat) := [[],[],[0,1],[2],[3],[3],[4,5,3],[3,6],[7,3],[8],[8],[9,10,8],[8,11],[12,8],[13],[13],[14,15,13,13],[16,13],[13,17],[18,16],[19],[19],[20,21,19],[19,22],[23,19],[24],[24],[25,26,24,24],[27,24],[24,28],[29,27],[30],[30],[31,32,30],[30,33],[34,30],[35],[35],[36,37,35,35],[38,35],[35,39],[40,38],[41],[41],[42,43,41],[41,44],[45,41],[46],[46],[47,48,46],[46,49],[50,46],[51],[51],[52,53,51],[51,54],[55,51],[56],[56],[57,58,56,56],[59,56],[56,60],[61,59],[62],[62],[63,64,62],[62,65],[66,62],[67],[67],[68,69,67],[67,70],[71,67],[72],[73,72,72],[72],[75,74,72],[74,76,72],[72,77],[78,76],[79],[79],[81,79,79],[80,82,79],[79,83],[84,82],[85],[85],[86,87,85],[85,88],[89,85],[90],[90],[91,92,90],[90,93],[94,90],[95],[95],[97,95,95],[98],[98,99,95],[96,100,95],[95,101],[102,98],[103],[103],[104,105,103],[103,106],[107,103],[108],[108],[109,110,108],[108,111]]
def laws_FnShadows_D : List (List Nat) := [[],[],[0,1],[2,0,1],[3,2,0,1],[3,2,0,1],[4,3,2,0,1,5],[3,2,0,1,6,4,5],[7,3,2,0,1,6,4,5],[8,7,3,2,0,1,6,4,5],[8,7,3,2,0,1,6,4,5],[9,8,7,3,2,0,1,6,4,5,10],[8,7,3,2,0,1,6,4,5,11,9,10],[12,8,7,3,2,0,1,6,4,5,11,9,10],[13,12,8,7,3,2,0,1,6,4,5,11,9,10],[13,12,8,7,3,2,0,1,6,4,5,11,9,10],[14,13,12,8,7,3,2,0,1,6,4,5,11,9,10,15],[16,14,13,12,8,7,3,2,0,1,6,4,5,11,9,10,15],[13,12,8,7,3,2,0,1,6,4,5,11,9,10,17,16,14,15],[18,13,12,8,7,3,2,0,1,6,4,5,11,9,10,17,16,14,15],[19,18,13,12,8,7,3,2,0,1,6,4,5,11,9,10,17,16,14,15],[19,18,13,12,8,7,3,2,0,1,6,4,5,11,9,10,17,16,14,15],[20,19,18,13,12,8,7,3,2,0,1,6,4,5,11,9,10,17,16,14,15,21],[19,18,13,12,8,7,3,2,0,1,6,4,5,11,9,10,17,16,14,15,22,20,21],[23,19,18,13,12,8,7,3,2,0,1,6,4,5,11,9,10,17,16,14,15,22,20,21],[24,23,19,18,13,12,8,7,3,2,0,1,6,4,5,11,9,10,17,16,14,15,22,20,21],[24,23,19,18,13,12,8,7,3,2,0,1,6,4,5,11,9,10,17,16,14,15,22,20,21],[25,24,23,19,18,13,12,8,7,3,2,0,1,6,4,5,11,9,10,17,16,14,15,22,20,21,26],[27,25,24,23,19,18,13,12,8,7,3,2,0,1,6,4,5,11,9,10,17,16,14,15,22,20,21,26],[24,23,19,18,13,12,8,7,3,2,0,1,6,4,5,11,9,10,17,16,14,15,22,20,21,28,27,25,26],[29,24,23,19,18,13,12,8,7,3,2,0,1,6,4,5,11,9,10,17,16,14,15,22,20,21,28,27,25,26],[30,29,24,23,19,18,13,12,8,7,3,2,0,1,6,4,5,11,9,10,17,16,14,15,22,20,21,28,27,25,26],[30,29,24,23,19,18,13,12,8,7,3,2,0,1,6,4,5,11,9,10,17,16,14,15,22,20,21,28,27,25,26],[31,30,29,24,23,19,18,13,12,8,7,3,2,0,1,6,4,5,11,9,10,17,16,14,15,22,20,21,28,27,25,26,32],[30,29,24,23,19,18,13,12,8,7,3,2,0,1,6,4,5,11,9,10,17,16,14,15,22,20,21,28,27,25,26,33,31,32],[34,30,29,24,23,19,18,13,12,8,7,3,2,0,1,6,4,5,11,9,10,17,16,14,15,22,20,21,28,27,25,26,33,31,32],[35,34,30,29,24,23,19,18,13,12,8,7,3,2,0,1,6,4,5,11,9,10,17,16,14,15,22,20,21,28,27,25,26,33,31,32],[35,34,30,29,24,23,19,18,13,12,8,7,3,2,0,1,6,4,5,11,9,10,17,16,14,15,22,20,21,28,27,25,26,33,31,32],[36,35,34,30,29,24,23,19,18,13,12,8,7,3,2,0,1,6,4,5,11,9,10,17,16,14,15,22,20,21,28,27,25,26,33,31,32,37],[38,36,35,34,30,29,24,23,19,18,13,12,8,7,3,2,0,1,6,4,5,11,9,10,17,16,14,15,22,20,21,28,27,25,26,33,31,32,37],[35,34,30,29,24,23,19,18,13,12,8,7,3,2,0,1,6,4,5,11,9,10,17,16,14,15,22,20,21,28,27,25,26,33,31,32,39,38,36,37],[40,35,34,30,29,24,23,19,18,13,12,8,7,3,2,0,1,6,4,5,11,9,10,17,16,14,15,22,20,21,28,27,25,26,33,31,32,39,38,36,37],[41,40,35,34,30,29,24,23,19,18,13,12,8,7,3,2,0,1,6,4,5,11,9,10,17,16,14,15,22,20,21,28,27,25,26,33,31,32,39,38,36,37],[41,40,35,34,30,29,24,23,19,18,13,12,8,7,3,2,0,1,6,4,5,11,9,10,17,16,14,15,22,20,21,28,27,25,26,33,31,32,39,38,36,37],[42,41,40,35,34,30,29,24,23,19,18,13,12,8,7,3,2,0,1,6,4,5,11,9,10,17,16,14,15,22,20,21,28,27,25,26,33,31,32,39,38,36,37,43],[41,40,35,34,30,29,24,23,19,18,13,12,8,7,3,2,0,1,6,4,5,11,9,10,17,16,14,15,22,20,21,28,27,25,26,33,31,32,39,38,36,37,44,42,43],[45,41,40,35,34,30,29,24,23,19,18,13,12,8,7,3,2,0,1,6,4,5,11,9,10,17,16,14,15,22,20,21,28,27,25,26,33,31,32,39,38,36,37,44,42,43],[46,45,41,40,35,34,30,29,24,23,19,18,13,12,8,7,3,2,0,1,6,4,5,11,9,10,17,16,14,15,22,20,21,28,27,25,26,33,31,32,39,38,36,37,44,42,43],[46,45,41,40,35,34,30,29,24,23,19,18,13,12,8,7,3,2,0,1,6,4,5,11,9,10,17,16,14,15,22,20,21,28,27,25,26,33,31,32,39,38,36,37,44,42,43],[47,46,45,41,40,35,34,30,29,24,23,19,18,13,12,8,7,3,2,0,1,6,4,5,11,9,10,17,16,14,15,22,20,21,28,27,25,26,33,31,32,39,38,36,37,44,42,43,48],[46,45,41,40,35,34,30,29,24,23,19,18,13,12,8,7,3,2,0,1,6,4,5,11,9,10,17,16,14,15,22,20,21,28,27,25,26,33,31,32,39,38,36,37,44,42,43,49,47,48],[50,46,45,41,40,35,34,30,29,24,23,19,18,13,12,8,7,3,2,0,1,6,4,5,11,9,10,17,16,14,15,22,20,21,28,27,25,26,33,31,32,39,38,36,37,44,42,43,49,47,48],[51,50,46,45,41,40,35,34,30,29,24,23,19,18,13,12,8,7,3,2,0,1,6,4,5,11,9,10,17,16,14,15,22,20,21,28,27,25,26,33,31,32,39,38,36,37,44,42,43,49,47,48],[51,50,46,45,41,40,35,34,30,29,24,23,19,18,13,12,8,7,3,2,0,1,6,4,5,11,9,10,17,16,14,15,22,20,21,28,27,25,26,33,31,32,39,38,36,37,44,42,43,49,47,48],[52,51,50,46,45,41,40,35,34,30,29,24,23,19,18,13,12,8,7,3,2,0,1,6,4,5,11,9,10,17,16,14,15,22,20,21,28,27,25,26,33,31,32,39,38,36,37,44,42,43,49,47,48,53],[51,50,46,45,41,40,35,34,30,29,24,23,19,18,13,12,8,7,3,2,0,1,6,4,5,11,9,10,17,16,14,15,22,20,21,28,27,25,26,33,31,32,39,38,36,37,44,42,43,49,47,48,54,52,53],[55,51,50,46,45,41,40,35,34,30,29,24,23,19,18,13,12,8,7,3,2,0,1,6,4,5,11,9,10,17,16,14,15,22,20,21,28,27,25,26,33,31,32,39,38,36,37,44,42,43,49,47,48,54,52,53],[56,55,51,50,46,45,41,40,35,34,30,29,24,23,19,18,13,12,8,7,3,2,0,1,6,4,5,11,9,10,17,16,14,15,22,20,21,28,27,25,26,33,31,32,39,38,36,37,44,42,43,49,47,48,54,52,53],[56,55,51,50,46,45,41,40,35,34,30,29,24,23,19,18,13,12,8,7,3,2,0,1,6,4,5,11,9,10,17,16,14,15,22,20,21,28,27,25,26,33,31,32,39,38,36,37,44,42,43,49,47,48,54,52,53],[57,56,55,51,50,46,45,41,40,35,34,30,29,24,23,19,18,13,12,8,7,3,2,0,1,6,4,5,11,9,10,17,16,14,15,22,20,21,28,27,25,26,33,31,32,39,38,36,37,44,42,43,49,47,48,54,52,53,58],[59,57,56,55,51,50,46,45,41,40,35,34,30,29,24,23,19,18,13,12,8,7,3,2,0,1,6,4,5,11,9,10,17,16,14,15,22,20,21,28,27,25,26,33,31,32,39,38,36,37,44,42,43,49,47,48,54,52,53,58],[56,55,51,50,46,45,41,40,35,34,30,29,24,23,19,18,13,12,8,7,3,2,0,1,6,4,5,11,9,10,17,16,14,15,22,20,21,28,27,25,26,33,31,32,39,38,36,37,44,42,43,49,47,48,54,52,53,60,59,57,58],[61,56,55,51,50,46,45,41,40,35,34,30,29,24,23,19,18,13,12,8,7,3,2,0,1,6,4,5,11,9,10,17,16,14,15,22,20,21,28,27,25,26,33,31,32,39,38,36,37,44,42,43,49,47,48,54,52,53,60,59,57,58],[62,61,56,55,51,50,46,45,41,40,35,34,30,29,24,23,19,18,13,12,8,7,3,2,0,1,6,4,5,11,9,10,17,16,14,15,22,20,21,28,27,25,26,33,31,32,39,38,36,37,44,42,43,49,47,48,54,52,53,60,59,57,58],[62,61,56,55,51,50,46,45,41,40,35,34,30,29,24,23,19,18,13,12,8,7,3,2,0,1,6,4,5,11,9,10,17,16,14,15,22,20,21,28,27,25,26,33,31,32,39,38,36,37,44,42,43,49,47,48,54,52,53,60,59,57,58],[63,62,61,56,55,51,50,46,45,41,40,35,34,30,29,24,23,19,18,13,12,8,7,3,2,0,1,6,4,5,11,9,10,17,16,14,15,22,20,21,28,27,25,26,33,31,32,39,38,36,37,44,42,43,49,47,48,54,52,53,60,59,57,58,64],[62,61,56,55,51,50,46,45,41,40,35,34,30,29,24,23,19,18,13,12,8,7,3,2,0,1,6,4,5,11,9,10,17,16,14,15,22,20,21,28,27,25,26,33,31,32,39,38,36,37,44,42,43,49,47,48,54,52,53,60,59,57,58,65,63,64],[66,62,61,56,55,51,50,46,45,41,40,35,34,30,29,24,23,19,18,13,12,8,7,3,2,0,1,6,4,5,11,9,10,17,16,14,15,22,20,21,28,27,25,26,33,31,32,39,38,36,37,44,42,43,49,47,48,54,52,53,60,59,57,58,65,63,64],[67,66,62,61,56,55,51,50,46,45,41,40,35,34,30,29,24,23,19,18,13,12,8,7,3,2,0,1,6,4,5,11,9,10,17,16,14,15,22,20,21,28,27,25,26,33,31,32,39,38,36,37,44,42,43,49,47,48,54,52,53,60,59,57,58,65,63,64],[67,66,62,61,56,55,51,50,46,45,41,40,35,34,30,29,24,23,19,18,13,12,8,7,3,2,0,1,6,4,5,11,9,10,17,16,14,15,22,20,21,28,27,25,26,33,31,32,39,38,36,37,44,42,43,49,47,48,54,52,53,60,59,57,58,65,63,64],[68,67,66,62,61,56,55,51,50,46,45,41,40,35,34,30,29,24,23,19,18,13,12,8,7,3,2,0,1,6,4,5,11,9,10,17,16,14,15,22,20,21,28,27,25,26,33,31,32,39,38,36,37,44,42,43,49,47,48,54,52,53,60,59,57,58,65,63,64,69],[67,66,62,61,56,55,51,50,46,45,41,40,35,34,30,29,24,23,19,18,13,12,8,7,3,2,0,1,6,4,5,11,9,10,17,16,14,15,22,20,21,28,27,25,26,33,31,32,39,38,36,37,44,42,43,49,47,48,54,52,53,60,59,57,58,65,63,64,70,68,69],[71,67,66,62,61,56,55,51,50,46,45,41,40,35,34,30,29,24,23,19,18,13,12,8,7,3,2,0,1,6,4,5,11,9,10,17,16,14,15,22,20,21,28,27,25,26,33,31,32,39,38,36,37,44,42,43,49,47,48,54,52,53,60,59,57,58,65,63,64,70,68,69],[72,71,67,66,62,61,56,55,51,50,46,45,41,40,35,34,30,29,24,23,19,18,13,12,8,7,3,2,0,1,6,4,5,11,9,10,17,16,14,15,22,20,21,28,27,25,26,33,31,32,39,38,36,37,44,42,43,49,47,48,54,52,53,60,59,57,58,65,63,64,70,68,69],[73,72,71,67,66,62,61,56,55,51,50,46,45,41,40,35,34,30,29,24,23,19,18,13,12,8,7,3,2,0,1,6,4,5,11,9,10,17,16,14,15,22,20,21,28,27,25,26,33,31,32,39,38,36,37,44,42,43,49,47,48,54,52,53,60,59,57,58,65,63,64,70,68,69],[72,71,67,66,62,61,56,55,51,50,46,45,41,40,35,34,30,29,24,23,19,18,13,12,8,7,3,2,0,1,6,4,5,11,9,10,17,16,14,15,22,20,21,28,27,25,26,33,31,32,39,38,36,37,44,42,43,49,47,48,54,52,53,60,59,57,58,65,63,64,70,68,69],[75,72,71,67,66,62,61,56,55,51,50,46,45,41,40,35,34,30,29,24,23,19,18,13,12,8,7,3,2,0,1,6,4,5,11,9,10,17,16,14,15,22,20,21,28,27,25,26,33,31,32,39,38,36,37,44,42,43,49,47,48,54,52,53,60,59,57,58,65,63,64,70,68,69,74,73],[74,73,72,71,67,66,62,61,56,55,51,50,46,45,41,40,35,34,30,29,24,23,19,18,13,12,8,7,3,2,0,1,6,4,5,11,9,10,17,16,14,15,22,20,21,28,27,25,26,33,31,32,39,38,36,37,44,42,43,49,47,48,54,52,53,60,59,57,58,65,63,64,70,68,69,76,75],[72,71,67,66,62,61,56,55,51,50,46,45,41,40,35,34,30,29,24,23,19,18,13,12,8,7,3,2,0,1,6,4,5,11,9,10,17,16,14,15,22,20,21,28,27,25,26,33,31,32,39,38,36,37,44,42,43,49,47,48,54,52,53,60,59,57,58,65,63,64,70,68,69,77,74,73,76,75],[78,72,71,67,66,62,61,56,55,51,50,46,45,41,40,35,34,30,29,24,23,19,18,13,12,8,7,3,2,0,1,6,4,5,11,9,10,17,16,14,15,22,20,21,28,27,25,26,33,31,32,39,38,36,37,44,42,43,49,47,48,54,52,53,60,59,57,58,65,63,64,70,68,69,77,74,73,76,75],[79,78,72,71,67,66,62,61,56,55,51,50,46,45,41,40,35,34,30,29,24,23,19,18,13,12,8,7,3,2,0,1,6,4,5,11,9,10,17,16,14,15,22,20,21,28,27,25,26,33,31,32,39,38,36,37,44,42,43,49,47,48,54,52,53,60,59,57,58,65,63,64,70,68,69,77,74,73,76,75],[79,78,72,71,67,66,62,61,56,55,51,50,46,45,41,40,35,34,30,29,24,23,19,18,13,12,8,7,3,2,0,1,6,4,5,11,9,10,17,16,14,15,22,20,21,28,27,25,26,33,31,32,39,38,36,37,44,42,43,49,47,48,54,52,53,60,59,57,58,65,63,64,70,68,69,77,74,73,76,75],[81,79,78,72,71,67,66,62,61,56,55,51,50,46,45,41,40,35,34,30,29,24,23,19,18,13,12,8,7,3,2,0,1,6,4,5,11,9,10,17,16,14,15,22,20,21,28,27,25,26,33,31,32,39,38,36,37,44,42,43,49,47,48,54,52,53,60,59,57,58,65,63,64,70,68,69,77,74,73,76,75],[80,79,78,72,71,67,66,62,61,56,55,51,50,46,45,41,40,35,34,30,29,24,23,19,18,13,12,8,7,3,2,0,1,6,4,5,11,9,10,17,16,14,15,22,20,21,28,27,25,26,33,31,32,39,38,36,37,44,42,43,49,47,48,54,52,53,60,59,57,58,65,63,64,70,68,69,77,74,73,76,75,82,81],[79,78,72,71,67,66,62,61,56,55,51,50,46,45,41,40,35,34,30,29,24,23,19,18,13,12,8,7,3,2,0,1,6,4,5,11,9,10,17,16,14,15,22,20,21,28,27,25,26,33,31,32,39,38,36,37,44,42,43,49,47,48,54,52,53,60,59,57,58,65,63,64,70,68,69,77,74,73,76,75,83,80,82,81],[84,79,78,72,71,67,66,62,61,56,55,51,50,46,45,41,40,35,34,30,29,24,23,19,18,13,12,8,7,3,2,0,1,6,4,5,11,9,10,17,16,14,15,22,20,21,28,27,25,26,33,31,32,39,38,36,37,44,42,43,49,47,48,54,52,53,60,59,57,58,65,63,64,70,68,69,77,74,73,76,75,83,80,82,81],[85,84,79,78,72,71,67,66,62,61,56,55,51,50,46,45,41,40,35,34,30,29,24,23,19,18,13,12,8,7,3,2,0,1,6,4,5,11,9,10,17,16,14,15,22,20,21,28,27,25,26,33,31,32,39,38,36,37,44,42,43,49,47,48,54,52,53,60,59,57,58,65,63,64,70,68,69,77,74,73,76,75,83,80,82,81],[85,84,79,78,72,71,67,66,62,61,56,55,51,50,46,45,41,40,35,34,30,29,24,23,19,18,13,12,8,7,3,2,0,1,6,4,5,11,9,10,17,16,14,15,22,20,21,28,27,25,26,33,31,32,39,38,36,37,44,42,43,49,47,48,54,52,53,60,59,57,58,65,63,64,70,68,69,77,74,73,76,75,83,80,82,81],[86,85,84,79,78,72,71,67,66,62,61,56,55,51,50,46,45,41,40,35,34,30,29,24,23,19,18,13,12,8,7,3,2,0,1,6,4,5,11,9,10,17,16,14,15,22,20,21,28,27,25,26,33,31,32,39,38,36,37,44,42,43,49,47,48,54,52,53,60,59,57,58,65,63,64,70,68,69,77,74,73,76,75,83,80,82,81,87],[85,84,79,78,72,71,67,66,62,61,56,55,51,50,46,45,41,40,35,34,30,29,24,23,19,18,13,12,8,7,3,2,0,1,6,4,5,11,9,10,17,16,14,15,22,20,21,28,27,25,26,33,31,32,39,38,36,37,44,42,43,49,47,48,54,52,53,60,59,57,58,65,63,64,70,68,69,77,74,73,76,75,83,80,82,81,88,86,87],[89,85,84,79,78,72,71,67,66,62,61,56,55,51,50,46,45,41,40,35,34,30,29,24,23,19,18,13,12,8,7,3,2,0,1,6,4,5,11,9,10,17,16,14,15,22,20,21,28,27,25,26,33,31,32,39,38,36,37,44,42,43,49,47,48,54,52,53,60,59,57,58,65,63,64,70,68,69,77,74,73,76,75,83,80,82,81,88,86,87],[90,89,85,84,79,78,72,71,67,66,62,61,56,55,51,50,46,45,41,40,35,34,30,29,24,23,19,18,13,12,8,7,3,2,0,1,6,4,5,11,9,10,17,16,14,15,22,20,21,28,27,25,26,33,31,32,39,38,36,37,44,42,43,49,47,48,54,52,53,60,59,57,58,65,63,64,70,68,69,77,74,73,76,75,83,80,82,81,88,86,87],[90,89,85,84,79,78,72,71,67,66,62,61,56,55,51,50,46,45,41,40,35,34,30,29,24,23,19,18,13,12,8,7,3,2,0,1,6,4,5,11,9,10,17,16,14,15,22,20,21,28,27,25,26,33,31,32,39,38,36,37,44,42,43,49,47,48,54,52,53,60,59,57,58,65,63,64,70,68,69,77,74,73,76,75,83,80,82,81,88,86,87],[91,90,89,85,84,79,78,72,71,67,66,62,61,56,55,51,50,46,45,41,40,35,34,30,29,24,23,19,18,13,12,8,7,3,2,0,1,6,4,5,11,9,10,17,16,14,15,22,20,21,28,27,25,26,33,31,32,39,38,36,37,44,42,43,49,47,48,54,52,53,60,59,57,58,65,63,64,70,68,69,77,74,73,76,75,83,80,82,81,88,86,87,92],[90,89,85,84,79,78,72,71,67,66,62,61,56,55,51,50,46,45,41,40,35,34,30,29,24,23,19,18,13,12,8,7,3,2,0,1,6,4,5,11,9,10,17,16,14,15,22,20,21,28,27,25,26,33,31,32,39,38,36,37,44,42,43,49,47,48,54,52,53,60,59,57,58,65,63,64,70,68,69,77,74,73,76,75,83,80,82,81,88,86,87,93,91,92],[94,90,89,85,84,79,78,72,71,67,66,62,61,56,55,51,50,46,45,41,40,35,34,30,29,24,23,19,18,13,12,8,7,3,2,0,1,6,4,5,11,9,10,17,16,14,15,22,20,21,28,27,25,26,33,31,32,39,38,36,37,44,42,43,49,47,48,54,52,53,60,59,57,58,65,63,64,70,68,69,77,74,73,76,75,83,80,82,81,88,86,87,93,91,92],[95,94,90,89,85,84,79,78,72,71,67,66,62,61,56,55,51,50,46,45,41,40,35,34,30,29,24,23,19,18,13,12,8,7,3,2,0,1,6,4,5,11,9,10,17,16,14,15,22,20,21,28,27,25,26,33,31,32,39,38,36,37,44,42,43,49,47,48,54,52,53,60,59,57,58,65,63,64,70,68,69,77,74,73,76,75,83,80,82,81,88,86,87,93,91,92],[95,94,90,89,85,84,79,78,72,71,67,66,62,61,56,55,51,50,46,45,41,40,35,34,30,29,24,23,19,18,13,12,8,7,3,2,0,1,6,4,5,11,9,10,17,16,14,15,22,20,21,28,27,25,26,33,31,32,39,38,36,37,44,42,43,49,47,48,54,52,53,60,59,57,58,65,63,64,70,68,69,77,74,73,76,75,83,80,82,81,88,86,87,93,91,92],[97,95,94,90,89,85,84,79,78,72,71,67,66,62,61,56,55,51,50,46,45,41,40,35,34,30,29,24,23,19,18,13,12,8,7,3,2,0,1,6,4,5,11,9,10,17,16,14,15,22,20,21,28,27,25,26,33,31,32,39,38,36,37,44,42,43,49,47,48,54,52,53,60,59,57,58,65,63,64,70,68,69,77,74,73,76,75,83,80,82,81,88,86,87,93,91,92],[98,97,95,94,90,89,85,84,79,78,72,71,67,66,62,61,56,55,51,50,46,45,41,40,35,34,30,29,24,23,19,18,13,12,8,7,3,2,0,1,6,4,5,11,9,10,17,16,14,15,22,20,21,28,27,25,26,33,31,32,39,38,36,37,44,42,43,49,47,48,54,52,53,60,59,57,58,65,63,64,70,68,69,77,74,73,76,75,83,80,82,81,88,86,87,93,91,92],[98,97,95,94,90,89,85,84,79,78,72,71,67,66,62,61,56,55,51,50,46,45,41,40,35,34,30,29,24,23,19,18,13,12,8,7,3,2,0,1,6,4,5,11,9,10,17,16,14,15,22,20,21,28,27,25,26,33,31,32,39,38,36,37,44,42,43,49,47,48,54,52,53,60,59,57,58,65,63,64,70,68,69,77,74,73,76,75,83,80,82,81,88,86,87,93,91,92,99],[96,95,94,90,89,85,84,79,78,72,71,67,66,62,61,56,55,51,50,46,45,41,40,35,34,30,29,24,23,19,18,13,12,8,7,3,2,0,1,6,4,5,11,9,10,17,16,14,15,22,20,21,28,27,25,26,33,31,32,39,38,36,37,44,42,43,49,47,48,54,52,53,60,59,57,58,65,63,64,70,68,69,77,74,73,76,75,83,80,82,81,88,86,87,93,91,92,100,98,97,99],[95,94,90,89,85,84,79,78,72,71,67,66,62,61,56,55,51,50,46,45,41,40,35,34,30,29,24,23,19,18,13,12,8,7,3,2,0,1,6,4,5,11,9,10,17,16,14,15,22,20,21,28,27,25,26,33,31,32,39,38,36,37,44,42,43,49,47,48,54,52,53,60,59,57,58,65,63,64,70,68,69,77,74,73,76,75,83,80,82,81,88,86,87,93,91,92,101,96,100,98,97,99],[102,95,94,90,89,85,84,79,78,72,71,67,66,62,61,56,55,51,50,46,45,41,40,35,34,30,29,24,23,19,18,13,12,8,7,3,2,0,1,6,4,5,11,9,10,17,16,14,15,22,20,21,28,27,25,26,33,31,32,39,38,36,37,44,42,43,49,47,48,54,52,53,60,59,57,58,65,63,64,70,68,69,77,74,73,76,75,83,80,82,81,88,86,87,93,91,92,101,96,100,98,97,99],[103,102,95,94,90,89,85,84,79,78,72,71,67,66,62,61,56,55,51,50,46,45,41,40,35,34,30,29,24,23,19,18,13,12,8,7,3,2,0,1,6,4,5,11,9,10,17,16,14,15,22,20,21,28,27,25,26,33,31,32,39,38,36,37,44,42,43,49,47,48,54,52,53,60,59,57,58,65,63,64,70,68,69,77,74,73,76,75,83,80,82,81,88,86,87,93,91,92,101,96,100,98,97,99],[103,102,95,94,90,89,85,84,79,78,72,71,67,66,62,61,56,55,51,50,46,45,41,40,35,34,30,29,24,23,19,18,13,12,8,7,3,2,0,1,6,4,5,11,9,10,17,16,14,15,22,20,21,28,27,25,26,33,31,32,39,38,36,37,44,42,43,49,47,48,54,52,53,60,59,57,58,65,63,64,70,68,69,77,74,73,76,75,83,80,82,81,88,86,87,93,91,92,101,96,100,98,97,99],[104,103,102,95,94,90,89,85,84,79,78,72,71,67,66,62,61,56,55,51,50,46,45,41,40,35,34,30,29,24,23,19,18,13,12,8,7,3,2,0,1,6,4,5,11,9,10,17,16,14,15,22,20,21,28,27,25,26,33,31,32,39,38,36,37,44,42,43,49,47,48,54,52,53,60,59,57,58,65,63,64,70,68,69,77,74,73,76,75,83,80,82,81,88,86,87,93,91,92,101,96,100,98,97,99,105],[103,102,95,94,90,89,85,84,79,78,72,71,67,66,62,61,56,55,51,50,46,45,41,40,35,34,30,29,24,23,19,18,13,12,8,7,3,2,0,1,6,4,5,11,9,10,17,16,14,15,22,20,21,28,27,25,26,33,31,32,39,38,36,37,44,42,43,49,47,48,54,52,53,60,59,57,58,65,63,64,70,68,69,77,74,73,76,75,83,80,82,81,88,86,87,93,91,92,101,96,100,98,97,99,106,104,105],[107,103,102,95,94,90,89,85,84,79,78,72,71,67,66,62,61,56,55,51,50,46,45,41,40,35,34,30,29,24,23,19,18,13,12,8,7,3,2,0,1,6,4,5,11,9,10,17,16,14,15,22,20,21,28,27,25,26,33,31,32,39,38,36,37,44,42,43,49,47,48,54,52,53,60,59,57,58,65,63,64,70,68,69,77,74,73,76,75,83,80,82,81,88,86,87,93,91,92,101,96,100,98,97,99,106,104,105],[108,107,103,102,95,94,90,89,85,84,79,78,72,71,67,66,62,61,56,55,51,50,46,45,41,40,35,34,30,29,24,23,19,18,13,12,8,7,3,2,0,1,6,4,5,11,9,10,17,16,14,15,22,20,21,28,27,25,26,33,31,32,39,38,36,37,44,42,43,49,47,48,54,52,53,60,59,57,58,65,63,64,70,68,69,77,74,73,76,75,83,80,82,81,88,86,87,93,91,92,101,96,100,98,97,99,106,104,105],[108,107,103,102,95,94,90,89,85,84,79,78,72,71,67,66,62,61,56,55,51,50,46,45,41,40,35,34,30,29,24,23,19,18,13,12,8,7,3,2,0,1,6,4,5,11,9,10,17,16,14,15,22,20,21,28,27,25,26,33,31,32,39,38,36,37,44,42,43,49,47,48,54,52,53,60,59,57,58,65,63,64,70,68,69,77,74,73,76,75,83,80,82,81,88,86,87,93,91,92,101,96,100,98,97,99,106,104,105],[109,108,107,103,102,95,94,90,89,85,84,79,78,72,71,67,66,62,61,56,55,51,50,46,45,41,40,35,34,30,29,24,23,19,18,13,12,8,7,3,2,0,1,6,4,5,11,9,10,17,16,14,15,22,20,21,28,27,25,26,33,31,32,39,38,36,37,44,42,43,49,47,48,54,52,53,60,59,57,58,65,63,64,70,68,69,77,74,73,76,75,83,80,82,81,88,86,87,93,91,92,101,96,100,98,97,99,106,104,105,110],[108,107,103,102,95,94,90,89,85,84,79,78,72,71,67,66,62,61,56,55,51,50,46,45,41,40,35,34,30,29,24,23,19,18,13,12,8,7,3,2,0,1,6,4,5,11,9,10,17,16,14,15,22,20,21,28,27,25,26,33,31,32,39,38,36,37,44,42,43,49,47,48,54,52,53,60,59,57,58,65,63,64,70,68,69,77,74,73,76,75,83,80,82,81,88,86,87,93,91,92,101,96,100,98,97,99,106,104,105,111,109,110]]
def laws_FnShadows_ord : List Nat := [0,1,2,3,4,5,6,7,8,9,10,11,12,13,14,15,16,17,18,19,20,21,22,23,24,25,26,27,28,29,30,31,32,33,34,35,36,37,38,39,40,41,42,43,44,45,46,47,48,49,50,51,52,53,54,55,56,57,58,59,60,61,62,63,64,65,66,67,68,69,70,71,72,73,75,74,76,77,78,79,80,81,82,83,84,85,86,87,88,89,90,91,92,93,94,95,96,97,98,99,100,101,102,103,104,105,106,107,108,109,110,111,112]
def laws_FnShadows_ds : List DOp := [⟨(none, .mv 136 (.t 4)), [], []⟩,
 ⟨(none, .mv 137 (.t 6)), [], []⟩,
 ⟨(none, .eqb 138 true (.t 136) (.t 137)), [], []⟩,
 ⟨(none, .mv 139 (.t 138)), [], []⟩,
 ⟨(some (139, false), .mv 140 (.t 5)), [], []⟩,
 ⟨(some (139, false), .mv 141 (.t 7)), [], []⟩,
 ⟨(some (139, false), .eqb 142 true (.t 140) (.t 141)), [], []⟩,
 ⟨(none, .pick 143 (.t 139) (.c (.B true)) (.t 142)), [], []⟩,
 ⟨(none, .mv 144 (.t 143)), [], []⟩,
 ⟨(some (144, false), .mv 145 (.t 9)), [], []⟩,
 ⟨(some (144, false), .mv 146 (.t 11)), [], []⟩,
 ⟨(some (144, false), .eqb 147 true (.t 145) (.t 146)), [], []⟩,
 ⟨(none, .pick 148 (.t 144) (.c (.B true)) (.t 147)), [], []⟩,
 ⟨(none, .mv 149 (.t 148)), [], []⟩,
 ⟨(some (149, false), .loadN 150 4 (.t 8)), [], []⟩,
 ⟨(some (149, false), .loadN 151 4 (.t 10)), [], []⟩,
 ⟨(some (149, false), .call (some 152) F.laws_vHeap [(.t 150), (.t 151)]), [], []⟩,
 ⟨(some (149, false), .un 153 .not (.t 152)), [], []⟩,
 ⟨(none, .pick 154 (.t 149) (.c (.B true)) (.t 153)), [], []⟩,
 ⟨(none, .mv 155 (.t 154)), [], []⟩,
 ⟨(some (155, false), .mv 156 (.t 13)), [], []⟩,
 ⟨(some (155, false), .mv 157 (.t 15)), [], []⟩,
 ⟨(some (155, false), .eqb 158 true (.t 156) (.t 157)), [], []⟩,
 ⟨(none, .pick 159 (.t 155) (.c (.B true)) (.t 158)), [], []⟩,
 ⟨(none, .mv 160 (.t 159)), [], []⟩,
 ⟨(some (160, false), .mv 161 (.t 12)), [], []⟩,
 ⟨(some (160, false), .mv 162 (.t 14)), [], []⟩,
 ⟨(some (160, false), .call (some 163) F.laws_vCells [(.t 161), (.t 162)]), [], []⟩,
 ⟨(some (160, false), .un 164 .not (.t 163)), [], []⟩,
 ⟨(none, .pick 165 (.t 160) (.c (.B true)) (.t 164)), [], []⟩,
 ⟨(none, .mv 166 (.t 165)), [], []⟩,
 ⟨(some (166, false), .mv 167 (.t 17)), [], []⟩,
 ⟨(some (166, false), .mv 168 (.t 19)), [], []⟩,
 ⟨(some (166, false), .eqb 169 true (.t 167) (.t 168)), [], []⟩,
 ⟨(none, .pick 170 (.t 166) (.c (.B true)) (.t 169)), [], []⟩,
 ⟨(none, .mv 171 (.t 170)), [], []⟩,
 ⟨(some (171, false), .mv 172 (.t 16)), [], []⟩,
 ⟨(some (171, false), .mv 173 (.t 18)), [], []⟩,
 ⟨(some (171, false), .call (some 174) F.laws_vCells [(.t 172), (.t 173)]), [], []⟩,
 ⟨(some (171, false), .un 175 .not (.t 174)), [], []⟩,
 ⟨(none, .pick 176 (.t 171) (.c (.B true)) (.t 175)), [], []⟩,
 ⟨(none, .mv 177 (.t 176)), [], []⟩,
 ⟨(some (177, false), .mv 178 (.t 20)), [], []⟩,
 ⟨(some (177, false), .mv 179 (.t 22)), [], []⟩,
 ⟨(some (177, false), .bin 180 .neq (.t 178) (.t 179)), [], []⟩,
 ⟨(none, .pick 181 (.t 177) (.c (.B true)) (.t 180)), [], []⟩,
 ⟨(none, .mv 182 (.t 181)), [], []⟩,
 ⟨(some (182, false), .mv 183 (.t 21)), [], []⟩,
 ⟨(some (182, false), .mv 184 (.t 23)), [], []⟩,
 ⟨(some (182, false), .eqb 185 true (.t 183) (.t 184)), [], []⟩,
 ⟨(none, .pick 186 (.t 182) (.c (.B true)) (.t 185)), [], []⟩,
 ⟨(none, .mv 187 (.t 186)), [], []⟩,
 ⟨(some (187, false), .mv 188 (.t 25)), [], []⟩,
 ⟨(some (187, false), .mv 189 (.t 27)), [], []⟩,
 ⟨(some (187, false), .eqb 190 true (.t 188) (.t 189)), [], []⟩,
 ⟨(none, .pick 191 (.t 187) (.c (.B true)) (.t 190)), [], []⟩,
 ⟨(none, .mv 192 (.t 191)), [], []⟩,
 ⟨(some (192, false), .loadN 193 6 (.t 24)), [], []⟩,
 ⟨(some (192, false), .loadN 194 6 (.t 26)), [], []⟩,
 ⟨(some (192, false), .call (some 195) F.laws_vShadow [(.t 193), (.t 194)]), [], []⟩,
 ⟨(some (192, false), .un 196 .not (.t 195)), [], []⟩,
 ⟨(none, .pick 197 (.t 192) (.c (.B true)) (.t 196)), [], []⟩,
 ⟨(none, .mv 198 (.t 197)), [], []⟩,
 ⟨(some (198, false), .mv 199 (.t 30)), [], []⟩,
 ⟨(some (198, false), .mv 200 (.t 32)), [], []⟩,
 ⟨(some (198, false), .eqb 201 true (.t 199) (.t 200)), [], []⟩,
 ⟨(none, .pick 202 (.t 198) (.c (.B true)) (.t 201)), [], []⟩,
 ⟨(none, .mv 203 (.t 202)), [], []⟩,
 ⟨(some (203, false), .mv 204 (.t 31)), [], []⟩,
 ⟨(some (203, false), .mv 205 (.t 33)), [], []⟩,
 ⟨(some (203, false), .eqb 206 true (.t 204) (.t 205)), [], []⟩,
 ⟨(none, .pick 207 (.t 203) (.c (.B true)) (.t 206)), [], []⟩,
 ⟨(none, .mv 208 (.t 207)), [], []⟩,
 ⟨(some (208, false), .loadN 209 6 (.t 3)), [], []⟩,
 ⟨(some (208, false), .loadN 211 6 (.t 3)), [], []⟩,
 ⟨(some (208, false), .call (some 210) F.impl_IsShadow [(.t 209)]), [], [74]⟩,
 ⟨(some (208, false), .call (some 212) F.spec_IsShadow [(.t 211)]), [], []⟩,
 ⟨(some (208, false), .eqb 213 true (.t 210) (.t 212)), [], []⟩,
 ⟨(none, .pick 214 (.t 208) (.c (.B true)) (.t 213)), [], []⟩,
 ⟨(none, .mv 215 (.t 214)), [], []⟩,
 ⟨(some (215, false), .mv 216 (.t 5)), [], []⟩,
 ⟨(some (215, false), .loadN 217 6 (.t 3)), [], []⟩,
 ⟨(some (215, false), .call (some 218) F.impl_IsShadow [(.t 217)]), [], [80]⟩,
 ⟨(some (215, false), .eqb 219 true (.t 216) (.t 218)), [], []⟩,
 ⟨(none, .pick 220 (.t 215) (.c (.B true)) (.t 219)), [], []⟩,
 ⟨(none, .mv 221 (.t 220)), [], []⟩,
 ⟨(some (221, false), .mv 222 (.t 5)), [], []⟩,
 ⟨(some (221, false), .mv 223 (.t 21)), [], []⟩,
 ⟨(some (221, false), .eqb 224 true (.t 222) (.t 223)), [], []⟩,
 ⟨(none, .pick 225 (.t 221) (.c (.B true)) (.t 224)), [], []⟩,
 ⟨(none, .mv 226 (.t 225)), [], []⟩,
 ⟨(some (226, false), .mv 227 (.t 5)), [], []⟩,
 ⟨(some (226, false), .mv 228 (.t 25)), [], []⟩,
 ⟨(some (226, false), .eqb 229 true (.t 227) (.t 228)), [], []⟩,
 ⟨(none, .pick 230 (.t 226) (.c (.B true)) (.t 229)), [], []⟩,
 ⟨(none, .mv 231 (.t 230)), [], []⟩,
 ⟨(some (231, false), .mv 232 (.t 9)), [], []⟩,
 ⟨(some (231, false), .mv 233 (.t 5)), [], []⟩,
 ⟨(some (231, false), .mv 234 (.t 233)), [], []⟩,
 ⟨(some (234, true), .mv 235 (.t 4)), [], []⟩,
 ⟨(some (231, false), .pick 236 (.t 234) (.t 235) (.c (.B false))), [], []⟩,
 ⟨(some (231, false), .eqb 237 true (.t 232) (.t 236)), [], []⟩,
 ⟨(none, .pick 238 (.t 231) (.c (.B true)) (.t 237)), [], []⟩,
 ⟨(none, .mv 239 (.t 238)), [], []⟩,
 ⟨(some (239, false), .mv 240 (.t 9)), [], []⟩,
 ⟨(some (239, false), .mv 241 (.t 13)), [], []⟩,
 ⟨(some (239, false), .eqb 242 true (.t 240) (.t 241)), [], []⟩,
 ⟨(none, .pick 243 (.t 239) (.c (.B true)) (.t 242)), [], []⟩,
 ⟨(none, .mv 244 (.t 243)), [], []⟩,
 ⟨(some (244, false), .mv 245 (.t 9)), [], []⟩,
 ⟨(some (244, false), .mv 246 (.t 17)), [], []⟩,
 ⟨(some (244, false), .eqb 247 true (.t 245) (.t 246)), [], []⟩,
 ⟨(none, .pick 248 (.t 244) (.c (.B true)) (.t 247)), [], []⟩]
theorem laws_FnShadows_a : headF Go.Proofs.Tryz.prog F.laws_FnShadows = some (1, 445, [.tmp 2]) := by kernel_rfl
theorem laws_FnShadows_b : Nat.beq (bigsOf Go.Proofs.Tryz.prog F.laws_FnShadows 113).length 1 = true := by kernel_rfl
theorem laws_FnShadows_e1 : (bigOf Go.Proofs.Tryz.prog F.laws_FnShadows 113).toList.map (prepG Go.Proofs.Tryz.prog 445 (bigOf Go.Proofs.Tryz.prog F.laws_FnShadows 113)) = laws_FnShadows_gs := by kernel_rfl
theorem laws_FnShadows_e2 : edgesL (bigOf Go.Proofs.Tryz.prog F.laws_FnShadows 113) = laws_FnShadows_es := by kernel_rfl
theorem laws_FnShadows_e3 : closeD laws_FnShadows_es = laws_FnShadows_D := by kernel_rfl
theorem laws_FnShadows_e4 : orderL laws_FnShadows_gs laws_FnShadows_D 113 [] = laws_FnShadows_ord := by kernel_rfl
theorem laws_FnShadows_e5 : Go.Proofs.Tryz.prog.follows .mixedOrders = true := by kernel_rfl
theorem laws_FnShadows_en : laws_FnShadows_gs.length = 113 := by kernel_rfl
theorem laws_FnShadows_k1 : ((List.range 113).all fun i => !(laws_FnShadows_D.getD i []).contains i && (laws_FnShadows_D.getD i []).all fun k => decide (k < 113)) = true := by kernel_rfl
theorem laws_FnShadows_k2 : (laws_FnShadows_gs.all fun g => g.2.opds.all Opd.plain) = true := by kernel_rfl
theorem laws_FnShadows_k3 : (laws_FnShadows_es.length == 113) = true := by kernel_rfl
theorem laws_FnShadows_k4 : (laws_FnShadows_ord.length == 113) = true := by kernel_rfl
theorem laws_FnShadows_k5 : ((List.range 113).all fun i => laws_FnShadows_ord.contains i) = true := by kernel_rfl
theorem laws_FnShadows_k6 : ((List.range 113).all fun p => decide (laws_FnShadows_ord.getD p 0 < 113) && (List.range p).all fun q => laws_FnShadows_ord.getD q 0 != laws_FnShadows_ord.getD p 0) = true := by kernel_rfl
theorem laws_FnShadows_k7 : ((List.range 113).all fun i => (laws_FnShadows_es.getD i []).all fun j => (laws_FnShadows_D.getD i []).contains j && (laws_FnShadows_D.getD j []).all (laws_FnShadows_D.getD i []).contains) = true := by kernel_rfl
theorem laws_FnShadows_k8 : ((List.range 113).all fun i => (laws_FnShadows_D.getD i []).all fun k => (laws_FnShadows_es.getD i []).any fun j => k == j || (laws_FnShadows_D.getD j []).contains k) = true := by kernel_rfl
theorem laws_FnShadows_k9 : ((List.range 113).all fun p => (List.range p).all fun q => !((laws_FnShadows_D.getD (laws_FnShadows_ord.getD q 0) []).contains (laws_FnShadows_ord.getD p 0))) = true := by kernel_rfl
theorem laws_FnShadows_k10 : ((List.range 113).all fun p => (List.range p).all fun q => (laws_FnShadows_gs.getD (laws_FnShadows_ord.getD q 0) (none, .bad)).2.kind != 2 || (laws_FnShadows_D.getD (laws_FnShadows_ord.getD p 0) []).contains (laws_FnShadows_ord.getD q 0)) = true := by kernel_rfl
theorem laws_FnShadows_k11 : ((List.range 113).all fun i => (List.range 113).all fun k => i == k || ((match (laws_FnShadows_gs.getD i (none, .bad)).2.dst with | some s => (laws_FnShadows_gs.getD k (none, .bad)).2.dst != some s && (!((GOp.looks (laws_FnShadows_gs.getD k (none, .bad))).contains s) || (laws_FnShadows_D.getD k []).contains i || (laws_FnShadows_D.getD i []).contains k) | none => true))) = true := by kernel_rfl
theorem laws_FnShadows_e6 : (List.range 113).map (dopAt laws_FnShadows_gs laws_FnShadows_D laws_FnShadows_ord) = laws_FnShadows_ds := by kernel_rfl
theorem laws_FnShadows_c : prepCg Go.Proofs.Tryz.prog 445 (fun ops => bif Nat.beq ops.size 113 then .draw laws_FnShadows_ds else prepDraw Go.Proofs.Tryz.prog 445 ops) (bodyOf Go.Proofs.Tryz.prog F.laws_FnShadows) = C.laws_FnShadows.body := by kernel_rfl
theorem laws_FnShadows : prepF Go.Proofs.Tryz.prog F.laws_FnShadows = some C.laws_FnShadows := prepF_big (p := 1) (n := 445) (s := 113) (rs := [.tmp 2]) K.laws_FnShadows_a K.laws_FnShadows_b (prepDraw_of (n := 113) K.laws_FnShadows_e1 K.laws_FnShadows_e2 K.laws_FnShadows_e3 K.laws_FnShadows_e4 K.laws_FnShadows_e5 K.laws_FnShadows_en K.laws_FnShadows_k1 K.laws_FnShadows_k2 K.laws_FnShadows_k3 K.laws_FnShadows_k4 K.laws_FnShadows_k5 K.laws_FnShadows_k6 K.laws_FnShadows_k7 K.laws_FnShadows_k8 K.laws_FnShadows_k9 K.laws_FnShadows_k10 K.laws_FnShadows_k11 K.laws_FnShadows_e6) K.laws_FnShadows_c
end Go.Ab.K

/- The abstract machine by simp: rules that step through code, and words for what they leave. -/
namespace Go.Ab
open Go

/-! ### What a step leaves -/
def condB (t : Bool) (A B : Prop) : Prop := (t = true → A) ∧ (t = false → B)
def condV (v : LV) (A B : Prop) : Prop := match v with | .val (.bool t) => condB t A B | _ => False
def guardV (v : LV) (want : Bool) (A B : Prop) : Prop := match v with
  | .val (.bool b) => condB (b == want) A B
  | .tup [] => B
  | _ => False
def andK (c : Prop) (A : Prop) : Prop := c ∧ A
def sopK (r : Option (Nat × LV × Prop)) (fr : Fr) (M : Mem) (K : Fr → Mem → Prop) : Prop := match r with
  | some (d, v, c) => andK c (K (upd fr d v) M)
  | none => False
def aopK (r : Option (Nat × (Nat → LV) × Blk × Prop)) (fr : Fr) (M : Mem) (K : Fr → Mem → Prop) : Prop := match r with
  | some (d, v, blk, c) => andK c (K (upd fr d (v M.length)) (M ++ [some blk]))
  | none => False
def memK (r : Option Mem) (A : Mem → Prop) : Prop := match r with
  | some M => A M
  | none => False
def appK (r : Option (LV × Mem)) (A : LV → Mem → Prop) : Prop := match r with
  | some (v, M) => A v M
  | none => False
def callK (P : Program) (f : FuncId) (args : List LV) (M : Mem) (A : LV → Mem → Prop) : Prop := CallsR P f args M A
def storeK (n : Nat) (a x : LV) (M : Mem) (A : Mem → Prop) : Prop := match a, x.cells with
  | .ptr t off, some cs => andK (cs.length = n) (memK (setCells M t off cs) A)
  | _, _ => False
def appendK (esz bytes : Nat) (s x : LV) (M : Mem) (A : LV → Mem → Prop) : Prop := match lenS s, lenS x, winC M esz x with
  | some m, some n, some new => andK ((m + n) * bytes ≤ 140737488355328 ∧ m + n ≤ 9223372036854775807) (appK (appV M esz s n new) A)
  | _, _, _ => False
def copyK (esz : Nat) (s x : LV) (M : Mem) (A : Nat → Mem → Prop) : Prop := match s, lenS x, winC M esz x with
  | .ref t off m, some n, some new => memK (setCells M t off (new.take (min n m * esz))) (A (min n m))
  | _, _, _ => False
def clearK (e : Nat) (z : List LV) (x : LV) (M : Mem) (A : Mem → Prop) : Prop := match x with
  | .ref t off m => andK (z.length = e) (memK (setCells M t off (List.replicate m z).flatten) A)
  | _ => False
def callVK (P : Program) (x : LV) (args : List LV) (M : Mem) (A : LV → Mem → Prop) : Prop := match x with
  | .clo f caps => callK P f (args ++ caps.map fun p => .ptr p.1 p.2) M A
  | _ => False

/-- Continuations by name (so that simp finds nothing to do in what has not run yet). -/
def opsK (P : Program) (r : List GOp) (K : Fr → Mem → Prop) : Fr → Mem → Prop := fun fr M => EvOps P r fr M K
def putK (K : Fr → Mem → Prop) (fr : Fr) (d : Option Nat) : LV → Mem → Prop := fun v N => K (putO fr d v) N
def cntK (K : Fr → Mem → Prop) (fr : Fr) (d : Nat) : Nat → Mem → Prop := fun n N => K (upd fr d (.I (n : Int))) N
def seqK (P : Program) (b : ACode) (Q : AExit → Fr → Mem → Prop) : AExit → Fr → Mem → Prop := thenK (fun fr M => EvC P b fr M Q) Q
def evdK (P : Program) (r : List DOp) (lg : List (Option Nat)) (K : Fr → Mem → Prop) : Fr → Mem → Prop := fun fr M => EvD P r fr M lg K
def evd1K (P : Program) (r : List DOp) (lg : List (Option Nat)) (n : Nat) (K : Fr → Mem → Prop) : Fr → Mem → Prop := fun fr M => EvD P r fr M (lg ++ [if M.length = n then none else some n]) K
def evd2K (P : Program) (r : List DOp) (lg : List (Option Nat)) (M : Mem) (ks us : List Nat) (K : Fr → Mem → Prop) : Fr → Mem → Prop := fun fr N => andK (KeepL us M (unmask M ks N)) (EvD P r fr (unmask M ks N) (lg ++ [none]) K)
def endQ (res : List ARes) (M N : Mem) (v : LV) : AExit → Fr → Mem → Prop := fun e fr Me => (e = .normal ∨ e = .ret) ∧ ∃ ve, resV fr Me res = some ve ∧ Cmp M Me ve N v
def endR (res : List ARes) (Post : LV → Mem → Prop) : AExit → Fr → Mem → Prop := fun e fr Me => (e = .normal ∨ e = .ret) ∧ ∃ ve, resV fr Me res = some ve ∧ Post ve Me
def postK (Post : LV → Mem → Prop) (v : LV) (M : Mem) : Prop := Post v M
def rndK (m : Nat) (I : Nat → Fr → Mem → Prop) : Fr → Mem → Prop := fun fr' M' => ∃ m', m' < m ∧ I m' fr' M'

def condC (v : LV) (P : Program) (a b : ACode) (fr : Fr) (M : Mem) (Q : AExit → Fr → Mem → Prop) : Prop := condV v (EvC P a fr M Q) (EvC P b fr M Q)
def guardO (v : LV) (w : Bool) (P : Program) (o : AOp) (fr : Fr) (M : Mem) (K : Fr → Mem → Prop) : Prop := guardV v w (EvOp P o fr M K) (K (putO fr o.dst undefL) M)

@[congr] theorem condB_congr {t t' : Bool} {A B : Prop} (h : t = t') : condB t A B = condB t' A B := by rw [h]
@[congr] theorem andK_congr {c c' : Prop} {A : Prop} (h : c = c') : andK c A = andK c' A := by rw [h]
@[congr] theorem sopK_congr {r r' : Option (Nat × LV × Prop)} {fr : Fr} {M : Mem} {K : Fr → Mem → Prop} (h : r = r') : sopK r fr M K = sopK r' fr M K := by rw [h]
@[congr] theorem aopK_congr {r r' : Option (Nat × (Nat → LV) × Blk × Prop)} {fr : Fr} {M : Mem} {K : Fr → Mem → Prop} (h : r = r') : aopK r fr M K = aopK r' fr M K := by rw [h]
@[congr] theorem memK_congr {r r' : Option Mem} {A : Mem → Prop} (h : r = r') : memK r A = memK r' A := by rw [h]
@[congr] theorem appK_congr {r r' : Option (LV × Mem)} {A : LV → Mem → Prop} (h : r = r') : appK r A = appK r' A := by rw [h]
@[congr] theorem postK_congr {Post : LV → Mem → Prop} {v v' : LV} {M M' : Mem} (h : v = v') (h' : M = M') : postK Post v M = postK Post v' M' := by rw [h, h']
@[congr] theorem callK_congr {P : Program} {f : FuncId} {args args' : List LV} {M M' : Mem} {A : LV → Mem → Prop} (h : args = args') (h' : M = M') : callK P f args M A = callK P f args' M' A := by rw [h, h']
@[congr] theorem storeK_congr {n : Nat} {a a' x x' : LV} {M M' : Mem} {A : Mem → Prop} (h : a = a') (h' : x = x') (h'' : M = M') : storeK n a x M A = storeK n a' x' M' A := by rw [h, h', h'']
@[congr] theorem appendK_congr {esz b : Nat} {s s' x x' : LV} {M M' : Mem} {A : LV → Mem → Prop} (h : s = s') (h' : x = x') (h'' : M = M') : appendK esz b s x M A = appendK esz b s' x' M' A := by rw [h, h', h'']
@[congr] theorem copyK_congr {esz : Nat} {s s' x x' : LV} {M M' : Mem} {A : Nat → Mem → Prop} (h : s = s') (h' : x = x') (h'' : M = M') : copyK esz s x M A = copyK esz s' x' M' A := by rw [h, h', h'']
@[congr] theorem clearK_congr {e : Nat} {z : List LV} {x x' : LV} {M M' : Mem} {A : Mem → Prop} (h : x = x') (h' : M = M') : clearK e z x M A = clearK e z x' M' A := by rw [h, h']
@[congr] theorem callVK_congr {P : Program} {x x' : LV} {args args' : List LV} {M M' : Mem} {A : LV → Mem → Prop} (h : x = x') (h' : args = args') (h'' : M = M') : callVK P x args M A = callVK P x' args' M' A := by rw [h, h', h'']
@[congr] theorem EvC_congr {P : Program} {a : ACode} {fr : Fr} {M M' : Mem} {Q : AExit → Fr → Mem → Prop} (h : M = M') : EvC P a fr M Q = EvC P a fr M' Q := by rw [h]

section
variable {P : Program} {fr : Fr} {M : Mem} {K : Fr → Mem → Prop} {Q : AExit → Fr → Mem → Prop} {A B : Prop}

theorem condB_t : condB true A B = A := by simp [condB]
theorem condB_f : condB false A B = B := by simp [condB]
section
variable {a b : ACode} {o : AOp} {t : Bool} {p : Prop}
theorem condC_t : condC (.val (.bool true)) P a b fr M Q = EvC P a fr M Q := condB_t
theorem condC_f : condC (.val (.bool false)) P a b fr M Q = EvC P b fr M Q := condB_f
theorem condC_not : condC (.val (.bool (!t))) P a b fr M Q = condC (.val (.bool t)) P b a fr M Q := by cases t <;> simp only [Bool.not_true, Bool.not_false, condC_t, condC_f]
theorem condC_dec [Decidable p] (h1 : p → EvC P a fr M Q) (h2 : ¬ p → EvC P b fr M Q) : condC (.val (.bool (decide p))) P a b fr M Q := by
  by_cases h : p
  · rw [decide_eq_true h, condC_t]; exact h1 h
  · rw [decide_eq_false h, condC_f]; exact h2 h
theorem condC_dt [Decidable p] (h : p) : condC (.val (.bool (decide p))) P a b fr M Q = EvC P a fr M Q := by rw [decide_eq_true h, condC_t]
theorem condC_df [Decidable p] (h : ¬ p) : condC (.val (.bool (decide p))) P a b fr M Q = EvC P b fr M Q := by rw [decide_eq_false h, condC_f]
theorem guardO_tt : guardO (.val (.bool true)) true P o fr M K = EvOp P o fr M K := condB_t
theorem guardO_ff : guardO (.val (.bool false)) false P o fr M K = EvOp P o fr M K := condB_t
theorem guardO_tf : guardO (.val (.bool true)) false P o fr M K = K (putO fr o.dst undefL) M := condB_f
theorem guardO_ft : guardO (.val (.bool false)) true P o fr M K = K (putO fr o.dst undefL) M := condB_f
theorem guardO_not {w : Bool} : guardO (.val (.bool (!t))) w P o fr M K = guardO (.val (.bool t)) (!w) P o fr M K := by cases t <;> cases w <;> rfl
theorem guardO_u {w : Bool} : guardO (.tup []) w P o fr M K = K (putO fr o.dst undefL) M := (rfl)
theorem guardO_ud {w : Bool} : guardO undefL w P o fr M K = K (putO fr o.dst undefL) M := (rfl)
theorem guardO_dtt [Decidable p] (h : p) : guardO (.val (.bool (decide p))) true P o fr M K = EvOp P o fr M K := by rw [decide_eq_true h, guardO_tt]
theorem guardO_dtf [Decidable p] (h : p) : guardO (.val (.bool (decide p))) false P o fr M K = K (putO fr o.dst undefL) M := by rw [decide_eq_true h, guardO_tf]
theorem guardO_dft [Decidable p] (h : ¬ p) : guardO (.val (.bool (decide p))) true P o fr M K = K (putO fr o.dst undefL) M := by rw [decide_eq_false h, guardO_ft]
theorem guardO_dff [Decidable p] (h : ¬ p) : guardO (.val (.bool (decide p))) false P o fr M K = EvOp P o fr M K := by rw [decide_eq_false h, guardO_ff]
end
theorem andK_d {c A : Prop} (h : c) : andK c A = A := by simp [andK, h]
theorem andK_t : andK True A = A := by simp [andK]
theorem sopK_s {d : Nat} {v : LV} {c : Prop} : sopK (some (d, v, c)) fr M K = andK c (K (upd fr d v) M) := (rfl)
theorem aopK_s {d : Nat} {v : Nat → LV} {blk : Blk} {c : Prop} : aopK (some (d, v, blk, c)) fr M K = andK c (K (upd fr d (v M.length)) (M ++ [some blk])) := (rfl)
theorem memK_s {A : Mem → Prop} : memK (some M) A = A M := (rfl)
theorem appK_s {A : LV → Mem → Prop} {v : LV} : appK (some (v, M)) A = A v M := (rfl)
theorem storeK_v {n t off : Nat} {v : Value} {A : Mem → Prop} : storeK n (.ptr t off) (.val v) M A = andK (1 = n) (memK (setCells M t off [.val v]) A) := (rfl)
theorem storeK_r {n t off a b c : Nat} {A : Mem → Prop} : storeK n (.ptr t off) (.ref a b c) M A = andK (1 = n) (memK (setCells M t off [.ref a b c]) A) := (rfl)
theorem storeK_p {n t off a b : Nat} {A : Mem → Prop} : storeK n (.ptr t off) (.ptr a b) M A = andK (1 = n) (memK (setCells M t off [.ptr a b]) A) := (rfl)
theorem storeK_m {n t off a : Nat} {A : Mem → Prop} : storeK n (.ptr t off) (.mp a) M A = andK (1 = n) (memK (setCells M t off [.mp a]) A) := (rfl)
theorem storeK_f {n t off : Nat} {f : FuncId} {c : List (Nat × Nat)} {A : Mem → Prop} : storeK n (.ptr t off) (.clo f c) M A = andK (1 = n) (memK (setCells M t off [.clo f c]) A) := (rfl)
theorem storeK_a {n t off : Nat} {cs : List LV} {A : Mem → Prop} : storeK n (.ptr t off) (.agg cs) M A = andK (cs.length = n) (memK (setCells M t off cs) A) := (rfl)

/-! ### Operations -/
theorem ev_sop {o : AOp} (h : o.kind = 0) : EvOp P o fr M K = sopK (sop o fr M) fr M K := by
  have hn := kind0_aop (fr := fr) (M := M) h
  have hs : o.special = false := kind_ne2 (by rw [h]; decide)
  apply propext
  rw [evop_plain hs, hn]
  cases hh : sop o fr M with
  | none => simp [sopK]
  | some r => obtain ⟨d, v, c⟩ := r; simp [sopK, andK]
theorem ev_aop {o : AOp} (h : o.kind = 1) : EvOp P o fr M K = aopK (aop o fr M) fr M K := by
  have hn := kind1_sop (fr := fr) (M := M) h
  have hs : o.special = false := kind_ne2 (by rw [h]; decide)
  apply propext
  rw [evop_plain hs, hn]
  cases hh : aop o fr M with
  | none => simp [aopK]
  | some r => obtain ⟨d, v, b, c⟩ := r; simp [aopK, andK]
theorem ev_store {n : Nat} {a x : Opd} : EvOp P (.store n a x) fr M K = storeK n (a.ev fr) (x.ev fr) M (K fr) := by
  simp only [EvOp, storeK, andK, memK]
  rfl
theorem ev_append {d e b : Nat} {s x : Opd} : EvOp P (.append d e b s x) fr M K = appendK e b (s.ev fr) (x.ev fr) M (putK K fr (some d)) := by
  simp only [EvOp, appendK, andK, appK, and_assoc, putK, putO]
  rfl
theorem ev_copy {d e : Nat} {s x : Opd} : EvOp P (.copy d e s x) fr M K = copyK e (s.ev fr) (x.ev fr) M (cntK K fr d) := by
  simp only [EvOp, copyK, memK, cntK]
  rfl
theorem ev_clear {d : Option Nat} {e : Nat} {z : List LV} {x : Opd} : EvOp P (.clear d e z x) fr M K = clearK e z (x.ev fr) M (putK K fr d undefL) := by
  simp only [EvOp, clearK, andK, memK, putK]
  rfl
theorem clearK_r {e t off m : Nat} {z : List LV} {A : Mem → Prop} : clearK e z (.ref t off m) M A = andK (z.length = e) (memK (setCells M t off (List.replicate m z).flatten) A) := (rfl)
theorem ev_call {d : Option Nat} {f : FuncId} {args : List Opd} : EvOp P (.call d f args) fr M K = callK P f (args.map (·.ev fr)) M (putK K fr d) := (rfl)
theorem ev_callV {d : Option Nat} {x : Opd} {args : List Opd} : EvOp P (.callV d x args) fr M K = callVK P (x.ev fr) (args.map (·.ev fr)) M (putK K fr d) := by
  simp only [EvOp, callVK, callK, putK]
  rfl
theorem callVK_c {f : FuncId} {caps : List (Nat × Nat)} {args : List LV} {A : LV → Mem → Prop} : callVK P (.clo f caps) args M A = callK P f (args ++ caps.map fun p => .ptr p.1 p.2) M A := (rfl)
theorem evg_n {o : AOp} : EvG P (none, o) fr M K = EvOp P o fr M K := (rfl)
theorem evg_s {s : Nat} {w : Bool} {o : AOp} : EvG P (some (s, w), o) fr M K = guardO (fr s) w P o fr M K := by
  simp only [EvG, guardO, guardV, condB]
  cases hs : fr s with
  | val v => cases v <;> simp
  | tup vs => cases vs <;> rfl
  | _ => rfl
theorem evops_n : EvOps P [] fr M K = K fr M := (rfl)
theorem evops_c {g : GOp} {r : List GOp} : EvOps P (g :: r) fr M K = EvG P g fr M (opsK P r K) := (rfl)
theorem opsK_r {r : List GOp} : opsK P r K fr M = EvOps P r fr M K := (rfl)
theorem putK_r {d : Option Nat} {v : LV} : putK K fr d v M = K (putO fr d v) M := (rfl)
theorem cntK_r {d n : Nat} : cntK K fr d n M = K (upd fr d (.I (n : Int))) M := (rfl)
theorem putO_s {d : Nat} {v : LV} : putO fr (some d) v = upd fr d v := (rfl)
theorem putO_n {v : LV} : putO fr none v = fr := (rfl)
theorem upd_at {d i : Nat} {v : LV} : upd fr d v i = if i = d then v else fr i := (rfl)
theorem ev_t {i : Nat} : (Opd.t i).ev fr = fr i := (rfl)
theorem ev_c {v : LV} : (Opd.c v).ev fr = v := (rfl)

/-! ### Code -/
theorem evc_skip : EvC P .skip fr M Q = Q .normal fr M := (rfl)
theorem evc_ops {l : List GOp} : EvC P (.ops l) fr M Q = EvOps P l fr M (Q .normal) := (rfl)
theorem evc_draw {l : List DOp} : EvC P (.draw l) fr M Q = EvD P l fr M [] (Q .normal) := (rfl)
theorem evc_seq {a b : ACode} : EvC P (.seq a b) fr M Q = EvC P a fr M (seqK P b Q) := (rfl)
theorem seqK_n {b : ACode} : seqK P b Q .normal fr M = EvC P b fr M Q := (rfl)
theorem seqK_e {b : ACode} {i : Nat} : seqK P b Q (.exit i) fr M = Q (.exit i) fr M := (rfl)
theorem seqK_r {b : ACode} : seqK P b Q .ret fr M = Q .ret fr M := (rfl)
theorem evc_cond {c : Opd} {a b : ACode} : EvC P (.cond c a b) fr M Q = condC (c.ev fr) P a b fr M Q := by
  simp only [EvC, condC, condV, condB]
  rfl
theorem evc_block {id : Nat} {a : ACode} : EvC P (.block id a) fr M Q = EvC P a fr M (blockK id Q) := (rfl)
theorem evc_exit {id : Nat} : EvC P (.exit id) fr M Q = Q (.exit id) fr M := (rfl)
theorem evc_ret : EvC P .ret fr M Q = Q .ret fr M := (rfl)
theorem thenK_n : thenK K Q .normal fr M = K fr M := (rfl)
theorem thenK_e {i : Nat} : thenK K Q (.exit i) fr M = Q (.exit i) fr M := (rfl)
theorem thenK_r : thenK K Q .ret fr M = Q .ret fr M := (rfl)
theorem endQ_r {res : List ARes} {N0 N : Mem} {v : LV} : endQ res N0 N v .ret fr M = ∃ ve, resV fr M res = some ve ∧ Cmp N0 M ve N v := by simp [endQ]
theorem endQ_n {res : List ARes} {N0 N : Mem} {v : LV} : endQ res N0 N v .normal fr M = ∃ ve, resV fr M res = some ve ∧ Cmp N0 M ve N v := by simp [endQ]
theorem endR_r {res : List ARes} {Post : LV → Mem → Prop} : endR res Post .ret fr M = ∃ ve, resV fr M res = some ve ∧ postK Post ve M := by simp [endR, postK]
theorem endR_n {res : List ARes} {Post : LV → Mem → Prop} : endR res Post .normal fr M = ∃ ve, resV fr M res = some ve ∧ postK Post ve M := by simp [endR, postK]
theorem blockK_n {id : Nat} : blockK id Q .normal fr M = Q .normal fr M := (rfl)
theorem blockK_e {id i : Nat} : blockK id Q (.exit i) fr M = if i = id then Q .normal fr M else Q (.exit i) fr M := (rfl)
theorem blockK_r {id : Nat} : blockK id Q .ret fr M = Q .ret fr M := (rfl)

theorem ev_loop {a : ACode} (I : Nat → Fr → Mem → Prop) (m : Nat) (h0 : I m fr M) (h : ∀ m fr M, I m fr M → EvC P a fr M (thenK (rndK m I) Q)) : EvC P (.loop a) fr M Q := ⟨I, m, h0, h⟩

/-- A function's text, by the rules. -/
theorem calls_run {f : FuncId} {fn : AFn} {args : List LV} {N : Mem} {v : LV} (hp : prepF P f = some fn) (hl : args.length = fn.np) (h : EvC P fn.body (fun i => args.getD i undefL) M (endQ fn.res M N v)) : CallsTo P f args M v N :=
  calls_of_ev hp ⟨hl, h⟩

theorem callsR_run {f : FuncId} {fn : AFn} {args : List LV} {Post : LV → Mem → Prop} (hp : prepF P f = some fn) (hl : args.length = fn.np) (h : EvC P fn.body (fun i => args.getD i undefL) M (endR fn.res Post)) : CallsR P f args M Post :=
  callsR_of_ev hp ⟨hl, h⟩

/-! ### Regions that draw -/
theorem evd_n {lg : List (Option Nat)} : EvD P [] fr M lg K = K fr M := (rfl)
theorem evd_0 {g : GOp} {msk unl : List Nat} {r : List DOp} {lg : List (Option Nat)} (h : g.2.kind = 0) :
    EvD P (⟨g, msk, unl⟩ :: r) fr M lg K = EvG P g fr M (evdK P r (lg ++ [keyOf g.2 fr]) K) := by
  simp only [EvD, h, if_true]; rfl
theorem evd_1 {g : GOp} {msk unl : List Nat} {r : List DOp} {lg : List (Option Nat)} (h : g.2.kind = 1) :
    EvD P (⟨g, msk, unl⟩ :: r) fr M lg K = EvG P g fr M (evd1K P r lg M.length K) := by
  simp only [EvD, h, if_true, if_neg (show ¬ (1 : Nat) = 0 by omega)]; rfl
theorem evd_2 {g : GOp} {msk unl : List Nat} {r : List DOp} {lg : List (Option Nat)} (h : g.2.kind = 2) :
    EvD P (⟨g, msk, unl⟩ :: r) fr M lg K = EvG P g fr (maskM (selL msk lg) M) (evd2K P r lg M (selL msk lg) (selL unl lg) K) := by
  simp only [EvD, h, if_neg (show ¬ (2 : Nat) = 1 by omega), if_neg (show ¬ (2 : Nat) = 0 by omega)]; rfl
theorem evdK_r {r : List DOp} {lg : List (Option Nat)} : evdK P r lg K fr M = EvD P r fr M lg K := (rfl)
theorem evd1K_r {r : List DOp} {lg : List (Option Nat)} {n : Nat} : evd1K P r lg n K fr M = EvD P r fr M (lg ++ [if M.length = n then none else some n]) K := (rfl)
theorem evd2K_r {r : List DOp} {lg : List (Option Nat)} {N : Mem} {ks us : List Nat} : evd2K P r lg M ks us K fr N = andK (KeepL us M (unmask M ks N)) (EvD P r fr (unmask M ks N) (lg ++ [none]) K) := (rfl)

theorem ifo_pos {α : Type} {c : Prop} [Decidable c] {a : Option α} (h : c) : (if c then a else none) = a := if_pos h
theorem selL_n {lg : List (Option Nat)} : selL [] lg = [] := (rfl)
theorem selL_c {p : Nat} {ps : List Nat} {lg : List (Option Nat)} : selL (p :: ps) lg = (match (lg[p]?).join with | some k => k :: selL ps lg | none => selL ps lg) := by
  unfold selL
  rw [List.filterMap_cons]
  cases (lg[p]?).join <;> rfl
theorem unmask_c {k : Nat} {ks : List Nat} {N : Mem} : unmask M (k :: ks) N = unmask M ks (match M[k]? with | some (some b) => N.set k (some b) | _ => N) := (rfl)
theorem keepL_c {k : Nat} {ks : List Nat} {N : Mem} : KeepL (k :: ks) M N = ((∀ b, M[k]? = some (some b) → N[k]? = some (some b)) ∧ KeepL ks M N) := by
  simp [KeepL]
theorem keep1_refl {o : Option (Option Blk)} : (∀ b, o = some (some b) → o = some (some b)) = True := by simp
theorem join_ss {α : Type} {x : Option α} : (some x).join = x := (rfl)
theorem add1_ne {n : Nat} : (n + 1 = n) = False := by simp
theorem maskM_n : maskM [] M = M := (rfl)
theorem maskM_c {k : Nat} {ks : List Nat} : maskM (k :: ks) M = maskM ks (M.set k none) := (rfl)
theorem unmask_n {N : Mem} : unmask M [] N = N := (rfl)
theorem keepL_n {N : Mem} : KeepL [] M N = True := by simp [KeepL]
theorem keepL_refl {ks : List Nat} : KeepL ks M M = True := by simp [KeepL]
theorem keepL_app {ks : List Nat} {L : Mem} : KeepL ks M (M ++ L) = True := by
  simp only [KeepL, eq_iff_iff, iff_true]
  intro k _ b h
  have : k < M.length := Live.lt h
  rw [List.getElem?_append_left this]; exact h

/-! ### Memory -/
theorem wrap_id {x : Int} (h : -9223372036854775808 ≤ x ∧ x ≤ 9223372036854775807) : IntKind.i64.wrap x = x := IntWalk.i64_in x h
def getRowL (L : Mem) (t : Nat) : Option (List LV) := getRow L t
def getEszL (L : Mem) (t : Nat) : Option Nat := getEsz L t
def getCellL (L : Mem) (t o : Nat) : Option LV := getCell L t o
def getCellsL (L : Mem) (t o n : Nat) : Option (List LV) := getCells L t o n
def setCellsL (L : Mem) (t o : Nat) (vs : List LV) : Option Mem := setCells L t o vs
theorem getEsz_app {L : Mem} {t : Nat} (h : t < M.length) : getEsz (M ++ L) t = getEsz M t := by unfold getEsz; rw [List.getElem?_append_left h]
theorem getRow_app {L : Mem} {t : Nat} (h : t < M.length) : getRow (M ++ L) t = getRow M t := by unfold getRow; rw [List.getElem?_append_left h]
theorem getCells_app {L : Mem} {t o n : Nat} (h : t < M.length) : getCells (M ++ L) t o n = getCells M t o n := by unfold getCells; rw [getRow_app h]
theorem at_0 {L : Mem} : (M ++ L)[M.length]? = L[0]? := by rw [List.getElem?_append_right (Nat.le_refl _), Nat.sub_self]
theorem at_j {L : Mem} {j : Nat} : (M ++ L)[M.length + j]? = L[j]? := by rw [List.getElem?_append_right (Nat.le_add_right _ _), Nat.add_sub_cancel_left]
theorem set_0 {L : Mem} {x : Option Blk} : (M ++ L).set M.length x = M ++ L.set 0 x := by simp
theorem set_j {L : Mem} {j : Nat} {x : Option Blk} : (M ++ L).set (M.length + j) x = M ++ L.set j x := by simp
theorem len_app {L : Mem} : (M ++ L).length = M.length + L.length := by simp
theorem row_0 {L : Mem} : getRow (M ++ L) M.length = getRowL L 0 := by unfold getRowL getRow; rw [at_0]
theorem row_j {L : Mem} {j : Nat} : getRow (M ++ L) (M.length + j) = getRowL L j := by unfold getRowL getRow; rw [at_j]
theorem esz_0 {L : Mem} : getEsz (M ++ L) M.length = getEszL L 0 := by unfold getEszL getEsz; rw [at_0]
theorem esz_j {L : Mem} {j : Nat} : getEsz (M ++ L) (M.length + j) = getEszL L j := by unfold getEszL getEsz; rw [at_j]
theorem cell_0 {L : Mem} {o : Nat} : getCell (M ++ L) M.length o = getCellL L 0 o := by unfold getCellL getCell; rw [row_0]; rfl
theorem cell_j {L : Mem} {j o : Nat} : getCell (M ++ L) (M.length + j) o = getCellL L j o := by unfold getCellL getCell; rw [row_j]; rfl
theorem cells_0 {L : Mem} {o n : Nat} : getCells (M ++ L) M.length o n = getCellsL L 0 o n := by unfold getCellsL getCells; rw [row_0]; rfl
theorem cells_j {L : Mem} {j o n : Nat} : getCells (M ++ L) (M.length + j) o n = getCellsL L j o n := by unfold getCellsL getCells; rw [row_j]; rfl
theorem setC_0 {L : Mem} {o : Nat} {vs : List LV} : setCells (M ++ L) M.length o vs = (setCellsL L 0 o vs).map (M ++ ·) := by
  unfold setCellsL setCells; rw [at_0]
  split
  · split
    · simp only [Option.map_some, set_0]
    · rfl
  · rfl
theorem setC_j {L : Mem} {j o : Nat} {vs : List LV} : setCells (M ++ L) (M.length + j) o vs = (setCellsL L j o vs).map (M ++ ·) := by
  unfold setCellsL setCells; rw [at_j]
  split
  · split
    · simp only [Option.map_some, set_j]
    · rfl
  · rfl
theorem rowL_z {cs : List LV} {w : Bool} {e : Nat} {L : Mem} : getRowL (some (.row cs w e) :: L) 0 = some cs := (rfl)
theorem rowL_s {x : Option Blk} {L : Mem} {j : Nat} : getRowL (x :: L) (j + 1) = getRowL L j := (rfl)
theorem eszL_z {cs : List LV} {w : Bool} {e : Nat} {L : Mem} : getEszL (some (.row cs w e) :: L) 0 = some e := (rfl)
theorem eszL_s {x : Option Blk} {L : Mem} {j : Nat} : getEszL (x :: L) (j + 1) = getEszL L j := (rfl)
theorem cellL_z {cs : List LV} {w : Bool} {e o : Nat} {L : Mem} : getCellL (some (.row cs w e) :: L) 0 o = cs[o]? := (rfl)
theorem cellL_s {x : Option Blk} {L : Mem} {j o : Nat} : getCellL (x :: L) (j + 1) o = getCellL L j o := (rfl)
theorem cellsL_z {cs : List LV} {w : Bool} {e o n : Nat} {L : Mem} : getCellsL (some (.row cs w e) :: L) 0 o n = if o + n ≤ cs.length then some ((cs.drop o).take n) else none := (rfl)
theorem cellsL_s {x : Option Blk} {L : Mem} {j o n : Nat} : getCellsL (x :: L) (j + 1) o n = getCellsL L j o n := (rfl)
theorem setL_z {cs vs : List LV} {e o : Nat} {L : Mem} : setCellsL (some (.row cs true e) :: L) 0 o vs = if o + vs.length ≤ cs.length then some (some (.row (splice cs o vs) true e) :: L) else none := (rfl)
theorem setL_s {x : Option Blk} {L : Mem} {j o : Nat} {vs : List LV} : setCellsL (x :: L) (j + 1) o vs = (setCellsL L j o vs).map (x :: ·) := by
  unfold setCellsL setCells
  simp only [List.getElem?_cons_succ, List.set_cons_succ]
  cases hL : L[j]? with
  | none => rfl
  | some o' => cases o' with
    | none => rfl
    | some b => cases b with
      | map => rfl
      | row cs w e => cases w with
        | false => rfl
        | true => simp only; split <;> rfl
theorem spl_10 {a x : LV} : splice [a] 0 [x] = [x] := (rfl)
theorem spl_20 {a b x : LV} : splice [a, b] 0 [x] = [x, b] := (rfl)
theorem spl_21 {a b x : LV} : splice [a, b] 1 [x] = [a, x] := (rfl)
theorem spl_30 {a b c x : LV} : splice [a, b, c] 0 [x] = [x, b, c] := (rfl)
theorem spl_31 {a b c x : LV} : splice [a, b, c] 1 [x] = [a, x, c] := (rfl)
theorem spl_32 {a b c x : LV} : splice [a, b, c] 2 [x] = [a, b, x] := (rfl)
theorem spl_40 {a b c d x : LV} : splice [a, b, c, d] 0 [x] = [x, b, c, d] := (rfl)
theorem spl_41 {a b c d x : LV} : splice [a, b, c, d] 1 [x] = [a, x, c, d] := (rfl)
theorem spl_42 {a b c d x : LV} : splice [a, b, c, d] 2 [x] = [a, b, x, d] := (rfl)
theorem spl_43 {a b c d x : LV} : splice [a, b, c, d] 3 [x] = [a, b, c, x] := (rfl)
theorem spl_3r {a b c x y z : LV} : splice [a, b, c] 0 [x, y, z] = [x, y, z] := (rfl)
theorem spl_4r {a b c d x y z u : LV} : splice [a, b, c, d] 0 [x, y, z, u] = [x, y, z, u] := (rfl)
theorem spl_2r {a b x y : LV} : splice [a, b] 0 [x, y] = [x, y] := (rfl)
theorem spl_5r {a0 a1 a2 a3 a4 x0 x1 x2 x3 x4 : LV} : splice [a0, a1, a2, a3, a4] 0 [x0, x1, x2, x3, x4] = [x0, x1, x2, x3, x4] := (rfl)
theorem spl_50 {a0 a1 a2 a3 a4 x : LV} : splice [a0, a1, a2, a3, a4] 0 [x] = [x, a1, a2, a3, a4] := (rfl)
theorem spl_51 {a0 a1 a2 a3 a4 x : LV} : splice [a0, a1, a2, a3, a4] 1 [x] = [a0, x, a2, a3, a4] := (rfl)
theorem spl_52 {a0 a1 a2 a3 a4 x : LV} : splice [a0, a1, a2, a3, a4] 2 [x] = [a0, a1, x, a3, a4] := (rfl)
theorem spl_53 {a0 a1 a2 a3 a4 x : LV} : splice [a0, a1, a2, a3, a4] 3 [x] = [a0, a1, a2, x, a4] := (rfl)
theorem spl_54 {a0 a1 a2 a3 a4 x : LV} : splice [a0, a1, a2, a3, a4] 4 [x] = [a0, a1, a2, a3, x] := (rfl)
theorem spl_6r {a0 a1 a2 a3 a4 a5 x0 x1 x2 x3 x4 x5 : LV} : splice [a0, a1, a2, a3, a4, a5] 0 [x0, x1, x2, x3, x4, x5] = [x0, x1, x2, x3, x4, x5] := (rfl)
theorem spl_60 {a0 a1 a2 a3 a4 a5 x : LV} : splice [a0, a1, a2, a3, a4, a5] 0 [x] = [x, a1, a2, a3, a4, a5] := (rfl)
theorem spl_61 {a0 a1 a2 a3 a4 a5 x : LV} : splice [a0, a1, a2, a3, a4, a5] 1 [x] = [a0, x, a2, a3, a4, a5] := (rfl)
theorem spl_62 {a0 a1 a2 a3 a4 a5 x : LV} : splice [a0, a1, a2, a3, a4, a5] 2 [x] = [a0, a1, x, a3, a4, a5] := (rfl)
theorem spl_63 {a0 a1 a2 a3 a4 a5 x : LV} : splice [a0, a1, a2, a3, a4, a5] 3 [x] = [a0, a1, a2, x, a4, a5] := (rfl)
theorem spl_64 {a0 a1 a2 a3 a4 a5 x : LV} : splice [a0, a1, a2, a3, a4, a5] 4 [x] = [a0, a1, a2, a3, x, a5] := (rfl)
theorem spl_65 {a0 a1 a2 a3 a4 a5 x : LV} : splice [a0, a1, a2, a3, a4, a5] 5 [x] = [a0, a1, a2, a3, a4, x] := (rfl)
theorem spl_7r {a0 a1 a2 a3 a4 a5 a6 x0 x1 x2 x3 x4 x5 x6 : LV} : splice [a0, a1, a2, a3, a4, a5, a6] 0 [x0, x1, x2, x3, x4, x5, x6] = [x0, x1, x2, x3, x4, x5, x6] := (rfl)
theorem spl_70 {a0 a1 a2 a3 a4 a5 a6 x : LV} : splice [a0, a1, a2, a3, a4, a5, a6] 0 [x] = [x, a1, a2, a3, a4, a5, a6] := (rfl)
theorem spl_71 {a0 a1 a2 a3 a4 a5 a6 x : LV} : splice [a0, a1, a2, a3, a4, a5, a6] 1 [x] = [a0, x, a2, a3, a4, a5, a6] := (rfl)
theorem spl_72 {a0 a1 a2 a3 a4 a5 a6 x : LV} : splice [a0, a1, a2, a3, a4, a5, a6] 2 [x] = [a0, a1, x, a3, a4, a5, a6] := (rfl)
theorem spl_73 {a0 a1 a2 a3 a4 a5 a6 x : LV} : splice [a0, a1, a2, a3, a4, a5, a6] 3 [x] = [a0, a1, a2, x, a4, a5, a6] := (rfl)
theorem spl_74 {a0 a1 a2 a3 a4 a5 a6 x : LV} : splice [a0, a1, a2, a3, a4, a5, a6] 4 [x] = [a0, a1, a2, a3, x, a5, a6] := (rfl)
theorem spl_75 {a0 a1 a2 a3 a4 a5 a6 x : LV} : splice [a0, a1, a2, a3, a4, a5, a6] 5 [x] = [a0, a1, a2, a3, a4, x, a6] := (rfl)
theorem spl_76 {a0 a1 a2 a3 a4 a5 a6 x : LV} : splice [a0, a1, a2, a3, a4, a5, a6] 6 [x] = [a0, a1, a2, a3, a4, a5, x] := (rfl)
theorem spl_8r {a0 a1 a2 a3 a4 a5 a6 a7 x0 x1 x2 x3 x4 x5 x6 x7 : LV} : splice [a0, a1, a2, a3, a4, a5, a6, a7] 0 [x0, x1, x2, x3, x4, x5, x6, x7] = [x0, x1, x2, x3, x4, x5, x6, x7] := (rfl)
theorem spl_80 {a0 a1 a2 a3 a4 a5 a6 a7 x : LV} : splice [a0, a1, a2, a3, a4, a5, a6, a7] 0 [x] = [x, a1, a2, a3, a4, a5, a6, a7] := (rfl)
theorem spl_81 {a0 a1 a2 a3 a4 a5 a6 a7 x : LV} : splice [a0, a1, a2, a3, a4, a5, a6, a7] 1 [x] = [a0, x, a2, a3, a4, a5, a6, a7] := (rfl)
theorem spl_82 {a0 a1 a2 a3 a4 a5 a6 a7 x : LV} : splice [a0, a1, a2, a3, a4, a5, a6, a7] 2 [x] = [a0, a1, x, a3, a4, a5, a6, a7] := (rfl)
theorem spl_83 {a0 a1 a2 a3 a4 a5 a6 a7 x : LV} : splice [a0, a1, a2, a3, a4, a5, a6, a7] 3 [x] = [a0, a1, a2, x, a4, a5, a6, a7] := (rfl)
theorem spl_84 {a0 a1 a2 a3 a4 a5 a6 a7 x : LV} : splice [a0, a1, a2, a3, a4, a5, a6, a7] 4 [x] = [a0, a1, a2, a3, x, a5, a6, a7] := (rfl)
theorem spl_85 {a0 a1 a2 a3 a4 a5 a6 a7 x : LV} : splice [a0, a1, a2, a3, a4, a5, a6, a7] 5 [x] = [a0, a1, a2, a3, a4, x, a6, a7] := (rfl)
theorem spl_86 {a0 a1 a2 a3 a4 a5 a6 a7 x : LV} : splice [a0, a1, a2, a3, a4, a5, a6, a7] 6 [x] = [a0, a1, a2, a3, a4, a5, x, a7] := (rfl)
theorem spl_87 {a0 a1 a2 a3 a4 a5 a6 a7 x : LV} : splice [a0, a1, a2, a3, a4, a5, a6, a7] 7 [x] = [a0, a1, a2, a3, a4, a5, a6, x] := (rfl)
theorem splice_1 {cs : List LV} {o : Nat} {v : LV} (h : o < cs.length) : splice cs o [v] = cs.set o v := by
  unfold splice
  rw [List.set_eq_take_append_cons_drop, if_pos h]; simp
end
end Go.Ab

/- The rules for each operation, printed by a program. -/
namespace Go.Ab
open Go
section
variable {P : Program} {fr : Fr} {M : Mem} {K : Fr → Mem → Prop}
theorem ev_mv (d : Nat) (x : Opd) : EvOp P (.mv d x) fr M K = sopK (some (d, x.ev fr, True)) fr M K := ev_sop rfl
theorem ev_pick (d : Nat) (c a b : Opd) : EvOp P (.pick d c a b) fr M K = sopK (match c.ev fr with | .val (.bool t) => some (d, (if t then a.ev fr else b.ev fr), True) | _ => none) fr M K := ev_sop rfl
theorem ev_bin (d : Nat) (op : BinOp) (x y : Opd) : EvOp P (.bin d op x y) fr M K = sopK ((binV op (x.ev fr) (y.ev fr)).map fun (v, c) => (d, v, c)) fr M K := ev_sop rfl
theorem ev_eqs (d : Nat) (ng : Bool) (n : Nat) (x y : Opd) : EvOp P (.eqs d ng n x y) fr M K = sopK ((eqV ng n (x.ev fr) (y.ev fr)).map fun v => (d, v, True)) fr M K := ev_sop rfl
theorem ev_eqb (d : Nat) (ng : Bool) (x y : Opd) : EvOp P (.eqb d ng x y) fr M K = sopK ((eqoV ng x y fr).map fun v => (d, v, True)) fr M K := ev_sop rfl
theorem ev_un (d : Nat) (op : UnOp) (x : Opd) : EvOp P (.un d op x) fr M K = sopK ((unV op (x.ev fr)).map fun v => (d, v, True)) fr M K := ev_sop rfl
theorem ev_conv (d : Nat) (k : IntKind) (x : Opd) : EvOp P (.conv d k x) fr M K = sopK (match x.ev fr with | .val (.int _ n) => some (d, .val (.int k (k.wrap n)), True) | _ => none) fr M K := ev_sop rfl
theorem ev_build (d : Nat) (z : List LV) (ps : List (Nat × Nat × Opd)) : EvOp P (.build d z ps) fr M K = sopK ((fillC z (ps.map fun (o, n, x) => (o, n, x.ev fr))).map fun cs => (d, .agg cs, True)) fr M K := ev_sop rfl
theorem ev_load1 (d : Nat) (x : Opd) : EvOp P (.load1 d x) fr M K = sopK (match x.ev fr with | .ptr t off => (getCell M t off).map fun v => (d, v, True) | _ => none) fr M K := ev_sop rfl
theorem ev_loadN (d n : Nat) (x : Opd) : EvOp P (.loadN d n x) fr M K = sopK (match x.ev fr with | .ptr t off => (getCells M t off n).map fun cs => (d, .agg cs, True) | _ => none) fr M K := ev_sop rfl
theorem ev_nilck (d : Nat) (x : Opd) : EvOp P (.nilck d x) fr M K = sopK (match x.ev fr with | .ptr t off => some (d, .ptr t off, True) | _ => none) fr M K := ev_sop rfl
theorem ev_mkf (d : Nat) (f : FuncId) (cs : List Opd) : EvOp P (.mkf d f cs) fr M K = sopK ((capOf cs fr).map fun cs => (d, .clo f cs, True)) fr M K := ev_sop rfl
theorem ev_slS (d e : Nat) (x : Opd) (lo hi : Option Opd) : EvOp P (.slS d e x lo hi) fr M K = sopK (sop (.slS d e x lo hi) fr M) fr M K := ev_sop rfl
theorem ev_slA (d n e : Nat) (x : Opd) (lo hi : Option Opd) : EvOp P (.slA d n e x lo hi) fr M K = sopK (sop (.slA d n e x lo hi) fr M) fr M K := ev_sop rfl
theorem ev_slT (d : Nat) (x : Opd) (lo hi : Option Opd) : EvOp P (.slT d x lo hi) fr M K = sopK (sop (.slT d x lo hi) fr M) fr M K := ev_sop rfl
theorem ev_fieldAddr (d : Nat) (x : Opd) (o : Nat) : EvOp P (.fieldAddr d x o) fr M K = sopK (match x.ev fr with | .ptr t o2 => some (d, .ptr t (o2 + o), True) | _ => none) fr M K := ev_sop rfl
theorem ev_field (d : Nat) (x : Opd) (o : Nat) (n : Option Nat) : EvOp P (.field d x o n) fr M K = sopK (match x.ev fr with
    | .agg cs => match n with
      | none => (cs[o]?).map fun v => (d, v, True)
      | some n => if o + n ≤ cs.length then some (d, .agg ((cs.drop o).take n), True) else none
    | _ => none) fr M K := ev_sop rfl
theorem ev_idxS (d e : Nat) (x i : Opd) : EvOp P (.idxS d e x i) fr M K = sopK (match x.ev fr, intV (i.ev fr) with
    | .ref t off n, some i => some (d, .ptr t (off + i.toNat * e), 0 ≤ i ∧ i < n)
    | _, _ => none) fr M K := ev_sop rfl
theorem ev_idxA (d n e : Nat) (x i : Opd) : EvOp P (.idxA d n e x i) fr M K = sopK (match x.ev fr, intV (i.ev fr) with
    | .ptr t off, some i => some (d, .ptr t (off + i.toNat * e), 0 ≤ i ∧ i < n)
    | _, _ => none) fr M K := ev_sop rfl
theorem ev_index (d n e : Nat) (ag : Bool) (x i : Opd) : EvOp P (.index d n e ag x i) fr M K = sopK (match x.ev fr, intV (i.ev fr) with
    | .agg cs, some i => if ag then some (d, .agg ((cs.drop (i.toNat * e)).take e), 0 ≤ i ∧ i < n ∧ i.toNat * e + e ≤ cs.length)
      else match cs[i.toNat * e]? with
        | some v => some (d, v, 0 ≤ i ∧ i < n)
        | none => none
    | _, _ => none) fr M K := ev_sop rfl
theorem ev_idxT (d : Nat) (x i : Opd) : EvOp P (.idxT d x i) fr M K = sopK (match x.ev fr, intV (i.ev fr) with
    | .val (.string s), some i => some (d, .val (.int .u8 ((s.data.toList.getD i.toNat 0).toNat : Int)), 0 ≤ i ∧ i < s.size)
    | _, _ => none) fr M K := ev_sop rfl
theorem ev_lookup (d : Nat) (m k : Opd) (z : Value) (ok : Bool) : EvOp P (.lookup d m k z ok) fr M K = sopK (sop (.lookup d m k z ok) fr M) fr M K := ev_sop rfl
theorem ev_extract (d : Nat) (x : Opd) (i : Nat) : EvOp P (.extract d x i) fr M K = sopK (match x.ev fr with | .tup vs => (vs[i]?).map fun v => (d, v, True) | _ => none) fr M K := ev_sop rfl
theorem ev_len (d : Nat) (x : Opd) : EvOp P (.len d x) fr M K = sopK ((lenV (x.ev fr)).map fun n => (d, .I n, True)) fr M K := ev_sop rfl
theorem ev_lenT (d : Nat) (x : Opd) : EvOp P (.lenT d x) fr M K = sopK ((lenTV (x.ev fr)).map fun n => (d, .I n, True)) fr M K := ev_sop rfl
theorem ev_mm (d : Nat) (mx : Bool) (xs : List Opd) : EvOp P (.mm d mx xs) fr M K = sopK ((maxV mx (xs.map (·.ev fr))).map fun v => (d, v, True)) fr M K := ev_sop rfl
theorem ev_any (d : Nat) : EvOp P (.any d) fr M K = sopK (some (d, .junk, True)) fr M K := ev_sop rfl
theorem ev_box (d : Nat) (x : Opd) : EvOp P (.box d x) fr M K = aopK ((x.ev fr).cells.map fun cs => (d, (.ptr · 0), .row cs true 0, True)) fr M K := ev_aop rfl
theorem ev_alloc (d : Nat) (z : List LV) : EvOp P (.alloc d z) fr M K = aopK (some (d, (.ptr · 0), .row z true 0, True)) fr M K := ev_aop rfl
theorem ev_buildSl (d n e : Nat) (z : List LV) (ps : List (Nat × Nat × Opd)) : EvOp P (.buildSl d n e z ps) fr M K = aopK ((fillC z (ps.map fun (o, n, x) => (o, n, x.ev fr))).map fun cs => (d, (.ref · 0 n), .row cs true e, True)) fr M K := ev_aop rfl
theorem ev_mksl (d e b : Nat) (z : List LV) (l c : Opd) : EvOp P (.mksl d e b z l c) fr M K = aopK (match intV (l.ev fr), intV (c.ev fr) with
    | some l, some c => some (d, (.ref · 0 l.toNat), .row (List.replicate l.toNat z).flatten true e, 0 ≤ l ∧ c = l ∧ (b : Int) * l ≤ 281474976710656 ∧ l ≤ 9223372036854775807)
    | _, _ => none) fr M K := ev_aop rfl
theorem ev_mkmap (d : Nat) : EvOp P (.mkmap d) fr M K = aopK (some (d, .mp, .map [], True)) fr M K := ev_aop rfl
theorem ev_sl0 (d e : Nat) (x : Opd) : EvOp P (.sl0 d e x) fr M K = aopK (match x.ev fr with
    | .ref _ _ _ | .val (.slice none 0 0) => some (d, (.ref · 0 0), .row [] true e, True)
    | _ => none) fr M K := ev_aop rfl
theorem evd_mv (d : Nat) (x : Opd) {gd : Option (Nat × Bool)} {msk unl : List Nat} {r : List DOp} {lg : List (Option Nat)} : EvD P (⟨(gd, .mv d x), msk, unl⟩ :: r) fr M lg K = EvG P (gd, .mv d x) fr M (evdK P r (lg ++ [none]) K) := evd_0 rfl
theorem evd_pick (d : Nat) (c a b : Opd) {gd : Option (Nat × Bool)} {msk unl : List Nat} {r : List DOp} {lg : List (Option Nat)} : EvD P (⟨(gd, .pick d c a b), msk, unl⟩ :: r) fr M lg K = EvG P (gd, .pick d c a b) fr M (evdK P r (lg ++ [none]) K) := evd_0 rfl
theorem evd_bin (d : Nat) (op : BinOp) (x y : Opd) {gd : Option (Nat × Bool)} {msk unl : List Nat} {r : List DOp} {lg : List (Option Nat)} : EvD P (⟨(gd, .bin d op x y), msk, unl⟩ :: r) fr M lg K = EvG P (gd, .bin d op x y) fr M (evdK P r (lg ++ [none]) K) := evd_0 rfl
theorem evd_eqs (d : Nat) (ng : Bool) (n : Nat) (x y : Opd) {gd : Option (Nat × Bool)} {msk unl : List Nat} {r : List DOp} {lg : List (Option Nat)} : EvD P (⟨(gd, .eqs d ng n x y), msk, unl⟩ :: r) fr M lg K = EvG P (gd, .eqs d ng n x y) fr M (evdK P r (lg ++ [none]) K) := evd_0 rfl
theorem evd_eqb (d : Nat) (ng : Bool) (x y : Opd) {gd : Option (Nat × Bool)} {msk unl : List Nat} {r : List DOp} {lg : List (Option Nat)} : EvD P (⟨(gd, .eqb d ng x y), msk, unl⟩ :: r) fr M lg K = EvG P (gd, .eqb d ng x y) fr M (evdK P r (lg ++ [none]) K) := evd_0 rfl
theorem evd_un (d : Nat) (op : UnOp) (x : Opd) {gd : Option (Nat × Bool)} {msk unl : List Nat} {r : List DOp} {lg : List (Option Nat)} : EvD P (⟨(gd, .un d op x), msk, unl⟩ :: r) fr M lg K = EvG P (gd, .un d op x) fr M (evdK P r (lg ++ [none]) K) := evd_0 rfl
theorem evd_conv (d : Nat) (k : IntKind) (x : Opd) {gd : Option (Nat × Bool)} {msk unl : List Nat} {r : List DOp} {lg : List (Option Nat)} : EvD P (⟨(gd, .conv d k x), msk, unl⟩ :: r) fr M lg K = EvG P (gd, .conv d k x) fr M (evdK P r (lg ++ [none]) K) := evd_0 rfl
theorem evd_build (d : Nat) (z : List LV) (ps : List (Nat × Nat × Opd)) {gd : Option (Nat × Bool)} {msk unl : List Nat} {r : List DOp} {lg : List (Option Nat)} : EvD P (⟨(gd, .build d z ps), msk, unl⟩ :: r) fr M lg K = EvG P (gd, .build d z ps) fr M (evdK P r (lg ++ [none]) K) := evd_0 rfl
theorem evd_load1 (d : Nat) (x : Opd) {gd : Option (Nat × Bool)} {msk unl : List Nat} {r : List DOp} {lg : List (Option Nat)} : EvD P (⟨(gd, .load1 d x), msk, unl⟩ :: r) fr M lg K = EvG P (gd, .load1 d x) fr M (evdK P r (lg ++ [keyOf (.load1 d x) fr]) K) := evd_0 rfl
theorem evd_loadN (d n : Nat) (x : Opd) {gd : Option (Nat × Bool)} {msk unl : List Nat} {r : List DOp} {lg : List (Option Nat)} : EvD P (⟨(gd, .loadN d n x), msk, unl⟩ :: r) fr M lg K = EvG P (gd, .loadN d n x) fr M (evdK P r (lg ++ [keyOf (.loadN d n x) fr]) K) := evd_0 rfl
theorem evd_nilck (d : Nat) (x : Opd) {gd : Option (Nat × Bool)} {msk unl : List Nat} {r : List DOp} {lg : List (Option Nat)} : EvD P (⟨(gd, .nilck d x), msk, unl⟩ :: r) fr M lg K = EvG P (gd, .nilck d x) fr M (evdK P r (lg ++ [none]) K) := evd_0 rfl
theorem evd_mkf (d : Nat) (f : FuncId) (cs : List Opd) {gd : Option (Nat × Bool)} {msk unl : List Nat} {r : List DOp} {lg : List (Option Nat)} : EvD P (⟨(gd, .mkf d f cs), msk, unl⟩ :: r) fr M lg K = EvG P (gd, .mkf d f cs) fr M (evdK P r (lg ++ [none]) K) := evd_0 rfl
theorem evd_slS (d e : Nat) (x : Opd) (lo hi : Option Opd) {gd : Option (Nat × Bool)} {msk unl : List Nat} {r : List DOp} {lg : List (Option Nat)} : EvD P (⟨(gd, .slS d e x lo hi), msk, unl⟩ :: r) fr M lg K = EvG P (gd, .slS d e x lo hi) fr M (evdK P r (lg ++ [keyOf (.slS d e x lo hi) fr]) K) := evd_0 rfl
theorem evd_slA (d n e : Nat) (x : Opd) (lo hi : Option Opd) {gd : Option (Nat × Bool)} {msk unl : List Nat} {r : List DOp} {lg : List (Option Nat)} : EvD P (⟨(gd, .slA d n e x lo hi), msk, unl⟩ :: r) fr M lg K = EvG P (gd, .slA d n e x lo hi) fr M (evdK P r (lg ++ [keyOf (.slA d n e x lo hi) fr]) K) := evd_0 rfl
theorem evd_slT (d : Nat) (x : Opd) (lo hi : Option Opd) {gd : Option (Nat × Bool)} {msk unl : List Nat} {r : List DOp} {lg : List (Option Nat)} : EvD P (⟨(gd, .slT d x lo hi), msk, unl⟩ :: r) fr M lg K = EvG P (gd, .slT d x lo hi) fr M (evdK P r (lg ++ [none]) K) := evd_0 rfl
theorem evd_fieldAddr (d : Nat) (x : Opd) (o : Nat) {gd : Option (Nat × Bool)} {msk unl : List Nat} {r : List DOp} {lg : List (Option Nat)} : EvD P (⟨(gd, .fieldAddr d x o), msk, unl⟩ :: r) fr M lg K = EvG P (gd, .fieldAddr d x o) fr M (evdK P r (lg ++ [none]) K) := evd_0 rfl
theorem evd_field (d : Nat) (x : Opd) (o : Nat) (n : Option Nat) {gd : Option (Nat × Bool)} {msk unl : List Nat} {r : List DOp} {lg : List (Option Nat)} : EvD P (⟨(gd, .field d x o n), msk, unl⟩ :: r) fr M lg K = EvG P (gd, .field d x o n) fr M (evdK P r (lg ++ [none]) K) := evd_0 rfl
theorem evd_idxS (d e : Nat) (x i : Opd) {gd : Option (Nat × Bool)} {msk unl : List Nat} {r : List DOp} {lg : List (Option Nat)} : EvD P (⟨(gd, .idxS d e x i), msk, unl⟩ :: r) fr M lg K = EvG P (gd, .idxS d e x i) fr M (evdK P r (lg ++ [none]) K) := evd_0 rfl
theorem evd_idxA (d n e : Nat) (x i : Opd) {gd : Option (Nat × Bool)} {msk unl : List Nat} {r : List DOp} {lg : List (Option Nat)} : EvD P (⟨(gd, .idxA d n e x i), msk, unl⟩ :: r) fr M lg K = EvG P (gd, .idxA d n e x i) fr M (evdK P r (lg ++ [none]) K) := evd_0 rfl
theorem evd_index (d n e : Nat) (ag : Bool) (x i : Opd) {gd : Option (Nat × Bool)} {msk unl : List Nat} {r : List DOp} {lg : List (Option Nat)} : EvD P (⟨(gd, .index d n e ag x i), msk, unl⟩ :: r) fr M lg K = EvG P (gd, .index d n e ag x i) fr M (evdK P r (lg ++ [none]) K) := evd_0 rfl
theorem evd_idxT (d : Nat) (x i : Opd) {gd : Option (Nat × Bool)} {msk unl : List Nat} {r : List DOp} {lg : List (Option Nat)} : EvD P (⟨(gd, .idxT d x i), msk, unl⟩ :: r) fr M lg K = EvG P (gd, .idxT d x i) fr M (evdK P r (lg ++ [none]) K) := evd_0 rfl
theorem evd_lookup (d : Nat) (m k : Opd) (z : Value) (ok : Bool) {gd : Option (Nat × Bool)} {msk unl : List Nat} {r : List DOp} {lg : List (Option Nat)} : EvD P (⟨(gd, .lookup d m k z ok), msk, unl⟩ :: r) fr M lg K = EvG P (gd, .lookup d m k z ok) fr M (evdK P r (lg ++ [keyOf (.lookup d m k z ok) fr]) K) := evd_0 rfl
theorem evd_extract (d : Nat) (x : Opd) (i : Nat) {gd : Option (Nat × Bool)} {msk unl : List Nat} {r : List DOp} {lg : List (Option Nat)} : EvD P (⟨(gd, .extract d x i), msk, unl⟩ :: r) fr M lg K = EvG P (gd, .extract d x i) fr M (evdK P r (lg ++ [none]) K) := evd_0 rfl
theorem evd_len (d : Nat) (x : Opd) {gd : Option (Nat × Bool)} {msk unl : List Nat} {r : List DOp} {lg : List (Option Nat)} : EvD P (⟨(gd, .len d x), msk, unl⟩ :: r) fr M lg K = EvG P (gd, .len d x) fr M (evdK P r (lg ++ [none]) K) := evd_0 rfl
theorem evd_lenT (d : Nat) (x : Opd) {gd : Option (Nat × Bool)} {msk unl : List Nat} {r : List DOp} {lg : List (Option Nat)} : EvD P (⟨(gd, .lenT d x), msk, unl⟩ :: r) fr M lg K = EvG P (gd, .lenT d x) fr M (evdK P r (lg ++ [none]) K) := evd_0 rfl
theorem evd_mm (d : Nat) (mx : Bool) (xs : List Opd) {gd : Option (Nat × Bool)} {msk unl : List Nat} {r : List DOp} {lg : List (Option Nat)} : EvD P (⟨(gd, .mm d mx xs), msk, unl⟩ :: r) fr M lg K = EvG P (gd, .mm d mx xs) fr M (evdK P r (lg ++ [none]) K) := evd_0 rfl
theorem evd_any (d : Nat) {gd : Option (Nat × Bool)} {msk unl : List Nat} {r : List DOp} {lg : List (Option Nat)} : EvD P (⟨(gd, .any d), msk, unl⟩ :: r) fr M lg K = EvG P (gd, .any d) fr M (evdK P r (lg ++ [none]) K) := evd_0 rfl
theorem evd_box (d : Nat) (x : Opd) {gd : Option (Nat × Bool)} {msk unl : List Nat} {r : List DOp} {lg : List (Option Nat)} : EvD P (⟨(gd, .box d x), msk, unl⟩ :: r) fr M lg K = EvG P (gd, .box d x) fr M (evd1K P r lg M.length K) := evd_1 rfl
theorem evd_alloc (d : Nat) (z : List LV) {gd : Option (Nat × Bool)} {msk unl : List Nat} {r : List DOp} {lg : List (Option Nat)} : EvD P (⟨(gd, .alloc d z), msk, unl⟩ :: r) fr M lg K = EvG P (gd, .alloc d z) fr M (evd1K P r lg M.length K) := evd_1 rfl
theorem evd_buildSl (d n e : Nat) (z : List LV) (ps : List (Nat × Nat × Opd)) {gd : Option (Nat × Bool)} {msk unl : List Nat} {r : List DOp} {lg : List (Option Nat)} : EvD P (⟨(gd, .buildSl d n e z ps), msk, unl⟩ :: r) fr M lg K = EvG P (gd, .buildSl d n e z ps) fr M (evd1K P r lg M.length K) := evd_1 rfl
theorem evd_mksl (d e b : Nat) (z : List LV) (l c : Opd) {gd : Option (Nat × Bool)} {msk unl : List Nat} {r : List DOp} {lg : List (Option Nat)} : EvD P (⟨(gd, .mksl d e b z l c), msk, unl⟩ :: r) fr M lg K = EvG P (gd, .mksl d e b z l c) fr M (evd1K P r lg M.length K) := evd_1 rfl
theorem evd_mkmap (d : Nat) {gd : Option (Nat × Bool)} {msk unl : List Nat} {r : List DOp} {lg : List (Option Nat)} : EvD P (⟨(gd, .mkmap d), msk, unl⟩ :: r) fr M lg K = EvG P (gd, .mkmap d) fr M (evd1K P r lg M.length K) := evd_1 rfl
theorem evd_sl0 (d e : Nat) (x : Opd) {gd : Option (Nat × Bool)} {msk unl : List Nat} {r : List DOp} {lg : List (Option Nat)} : EvD P (⟨(gd, .sl0 d e x), msk, unl⟩ :: r) fr M lg K = EvG P (gd, .sl0 d e x) fr M (evd1K P r lg M.length K) := evd_1 rfl
theorem evd_store (n : Nat) (a x : Opd) {gd : Option (Nat × Bool)} {msk unl : List Nat} {r : List DOp} {lg : List (Option Nat)} : EvD P (⟨(gd, .store n a x), msk, unl⟩ :: r) fr M lg K = EvG P (gd, .store n a x) fr (maskM (selL msk lg) M) (evd2K P r lg M (selL msk lg) (selL unl lg) K) := evd_2 rfl
theorem evd_append (d e b : Nat) (s x : Opd) {gd : Option (Nat × Bool)} {msk unl : List Nat} {r : List DOp} {lg : List (Option Nat)} : EvD P (⟨(gd, .append d e b s x), msk, unl⟩ :: r) fr M lg K = EvG P (gd, .append d e b s x) fr (maskM (selL msk lg) M) (evd2K P r lg M (selL msk lg) (selL unl lg) K) := evd_2 rfl
theorem evd_copy (d e : Nat) (s x : Opd) {gd : Option (Nat × Bool)} {msk unl : List Nat} {r : List DOp} {lg : List (Option Nat)} : EvD P (⟨(gd, .copy d e s x), msk, unl⟩ :: r) fr M lg K = EvG P (gd, .copy d e s x) fr (maskM (selL msk lg) M) (evd2K P r lg M (selL msk lg) (selL unl lg) K) := evd_2 rfl
theorem evd_clear (d : Option Nat) (e : Nat) (z : List LV) (x : Opd) {gd : Option (Nat × Bool)} {msk unl : List Nat} {r : List DOp} {lg : List (Option Nat)} : EvD P (⟨(gd, .clear d e z x), msk, unl⟩ :: r) fr M lg K = EvG P (gd, .clear d e z x) fr (maskM (selL msk lg) M) (evd2K P r lg M (selL msk lg) (selL unl lg) K) := evd_2 rfl
theorem evd_mupd (m k v : Opd) {gd : Option (Nat × Bool)} {msk unl : List Nat} {r : List DOp} {lg : List (Option Nat)} : EvD P (⟨(gd, .mupd m k v), msk, unl⟩ :: r) fr M lg K = EvG P (gd, .mupd m k v) fr (maskM (selL msk lg) M) (evd2K P r lg M (selL msk lg) (selL unl lg) K) := evd_2 rfl
theorem evd_call (d : Option Nat) (f : FuncId) (xs : List Opd) {gd : Option (Nat × Bool)} {msk unl : List Nat} {r : List DOp} {lg : List (Option Nat)} : EvD P (⟨(gd, .call d f xs), msk, unl⟩ :: r) fr M lg K = EvG P (gd, .call d f xs) fr (maskM (selL msk lg) M) (evd2K P r lg M (selL msk lg) (selL unl lg) K) := evd_2 rfl
theorem evd_callV (d : Option Nat) (x : Opd) (xs : List Opd) {gd : Option (Nat × Bool)} {msk unl : List Nat} {r : List DOp} {lg : List (Option Nat)} : EvD P (⟨(gd, .callV d x xs), msk, unl⟩ :: r) fr M lg K = EvG P (gd, .callV d x xs) fr (maskM (selL msk lg) M) (evd2K P r lg M (selL msk lg) (selL unl lg) K) := evd_2 rfl
end
end Go.Ab

/- Values: what operators come to; ends of functions. -/
namespace Go.Ab
open Go

section
variable {k : IntKind} {a b : Int} {t : Bool}
theorem bv_add : binV .add (.val (.int k a)) (.val (.int k b)) = some (.val (.int k (k.wrap (a + b))), True) := by simp [binV, binInt]
theorem bv_sub : binV .sub (.val (.int k a)) (.val (.int k b)) = some (.val (.int k (k.wrap (a - b))), True) := by simp [binV, binInt]
theorem bv_mul : binV .mul (.val (.int k a)) (.val (.int k b)) = some (.val (.int k (k.wrap (a * b))), True) := by simp [binV, binInt]
theorem bv_quo : binV .quo (.val (.int k a)) (.val (.int k b)) = some (.val (.int k (k.wrap (a.tdiv b))), b ≠ 0) := by simp [binV, binInt]
theorem bv_rem : binV .rem (.val (.int k a)) (.val (.int k b)) = some (.val (.int k (a.tmod b)), b ≠ 0) := by simp [binV, binInt]
theorem bv_eql : binV .eql (.val (.int k a)) (.val (.int k b)) = some (.val (.bool (decide (a = b))), True) := by
  have : (a == b) = decide (a = b) := (rfl)
  simp [binV, binInt, this]
theorem bv_neq : binV .neq (.val (.int k a)) (.val (.int k b)) = some (.val (.bool (!decide (a = b))), True) := by
  have : (a != b) = !decide (a = b) := (rfl)
  simp [binV, binInt, this]
theorem bv_lss : binV .lss (.val (.int k a)) (.val (.int k b)) = some (.val (.bool (decide (a < b))), True) := by simp [binV, binInt]
theorem bv_leq : binV .leq (.val (.int k a)) (.val (.int k b)) = some (.val (.bool (decide (a ≤ b))), True) := by simp [binV, binInt]
theorem bv_gtr : binV .gtr (.val (.int k a)) (.val (.int k b)) = some (.val (.bool (decide (b < a))), True) := by simp [binV, binInt]
theorem bv_geq : binV .geq (.val (.int k a)) (.val (.int k b)) = some (.val (.bool (decide (b ≤ a))), True) := by simp [binV, binInt]
theorem bv_shl {k' : IntKind} : binV .shl (.val (.int k a)) (.val (.int k' b)) = some (.val (.int k (k.wrap (a * 2 ^ (min b.toNat k.bits)))), 0 ≤ b) := (rfl)
theorem bv_shr {k' : IntKind} : binV .shr (.val (.int k a)) (.val (.int k' b)) = some (.val (.int k (a.fdiv (2 ^ (min b.toNat k.bits)))), 0 ≤ b) := (rfl)
theorem bv_and : binV .and (.val (.int k a)) (.val (.int k b)) = some (.val (.int k (k.wrap ((BitVec.ofInt k.bits a &&& BitVec.ofInt k.bits b).toNat : Int))), True) := by simp [binV, binInt]
theorem bv_or : binV .or (.val (.int k a)) (.val (.int k b)) = some (.val (.int k (k.wrap ((BitVec.ofInt k.bits a ||| BitVec.ofInt k.bits b).toNat : Int))), True) := by simp [binV, binInt]
theorem bv_xor : binV .xor (.val (.int k a)) (.val (.int k b)) = some (.val (.int k (k.wrap ((BitVec.ofInt k.bits a ^^^ BitVec.ofInt k.bits b).toNat : Int))), True) := by simp [binV, binInt]
theorem bv_not : binV .andNot (.val (.int k a)) (.val (.int k b)) = some (.val (.int k (k.wrap ((BitVec.ofInt k.bits a &&& ~~~ BitVec.ofInt k.bits b).toNat : Int))), True) := by simp [binV, binInt]
theorem eqo_t {ng : Bool} {x : Opd} {i : Nat} {fr : Fr} : eqoV ng x (.t i) fr = eqbV ng (x.ev fr) (fr i) := (rfl)
theorem eqo_b {ng : Bool} {x : Opd} {b : Bool} {fr : Fr} : eqoV ng x (.c (.val (.bool b))) fr = eqbV ng (x.ev fr) (.val (.bool b)) := (rfl)
theorem eqo_n {ng : Bool} {x : Opd} {fr : Fr} : eqoV ng x (.c (.val (.slice none 0 0))) fr = nilV ng (x.ev fr) := (rfl)
theorem nil_r {ng : Bool} {t o n : Nat} : nilV ng (.ref t o (n + 1)) = some (.val (.bool ng)) := (rfl)
theorem nil_n {ng : Bool} : nilV ng (.val (.slice none 0 0)) = some (.val (.bool (!ng))) := (rfl)
theorem eb_eq {x y : Bool} : eqbV false (.val (.bool x)) (.val (.bool y)) = some (.val (.bool (x == y))) := (rfl)
theorem eb_ne {x y : Bool} : eqbV true (.val (.bool x)) (.val (.bool y)) = some (.val (.bool (!(x == y)))) := (rfl)
theorem un_not : unV .not (.val (.bool t)) = some (.val (.bool (!t))) := (rfl)
theorem un_neg : unV .neg (.val (.int k a)) = some (.val (.int k (k.wrap (0 - a)))) := (rfl)
theorem andK_mk {c A : Prop} (h1 : c) (h2 : A) : andK c A := ⟨h1, h2⟩
theorem len_ref {t o n : Nat} : lenV (.ref t o n) = some (n : Int) := (rfl)
theorem len_nil {n c : Nat} : lenV (.val (.slice none n c)) = some (n : Int) := (rfl)
theorem intV_i {n : Int} : intV (.val (.int k n)) = some n := (rfl)
end

theorem pick_dt {p : Prop} [Decidable p] {a b : LV} (h : p) : (if decide p = true then a else b) = a := by rw [if_pos (decide_eq_true h)]
theorem pick_df {p : Prop} [Decidable p] {a b : LV} (h : ¬ p) : (if decide p = true then a else b) = b := by rw [decide_eq_false h]; rfl
/-- The references of a value lie below n. -/
def LV.lo1 (n : Nat) : LV → Bool
  | .ref t _ _ => decide (t < n)
  | .ptr t _ => decide (t < n)
  | .mp t => decide (t < n)
  | .clo _ cs => cs.all fun p => decide (p.1 < n)
  | _ => true
def LV.lo (n : Nat) : LV → Bool
  | .agg cs => cs.all (LV.lo1 n)
  | .tup vs => vs.all fun v => match v with | .agg cs => cs.all (LV.lo1 n) | v => LV.lo1 n v
  | v => LV.lo1 n v

theorem rn1_id {ρ : Nat → Nat} {n : Nat} (h : ∀ t, t < n → ρ t = t) {v : LV} (hv : v.lo1 n = true) : rn1 ρ v = v := by
  cases v <;> simp only [LV.lo1, decide_eq_true_eq] at hv <;> simp only [rn1]
  case ref t o m => rw [h t hv]
  case ptr t o => rw [h t hv]
  case mp t => rw [h t hv]
  case clo f cs =>
    congr 1
    rw [List.all_eq_true] at hv
    conv => rhs; rw [← List.map_id cs]
    apply List.map_congr_left
    intro p hp
    have := hv p hp
    simp only [decide_eq_true_eq] at this
    simp [h p.1 this]

theorem rn1s_id {ρ : Nat → Nat} {n : Nat} (h : ∀ t, t < n → ρ t = t) {cs : List LV} (hv : cs.all (LV.lo1 n) = true) : cs.map (rn1 ρ) = cs := by
  rw [List.all_eq_true] at hv
  conv => rhs; rw [← List.map_id cs]
  exact List.map_congr_left fun c hc => rn1_id h (hv c hc)

theorem rn0_id {ρ : Nat → Nat} {n : Nat} (h : ∀ t, t < n → ρ t = t) {v : LV} (hv : (match v with | .agg cs => cs.all (LV.lo1 n) | v => LV.lo1 n v) = true) : rn0 ρ v = v := by
  cases v <;> simp only [rn0] <;> try (exact rn1_id h hv)
  case agg cs => rw [rn1s_id h hv]

theorem rn_id {ρ : Nat → Nat} {n : Nat} (h : ∀ t, t < n → ρ t = t) {v : LV} (hv : v.lo n = true) : rn ρ v = v := by
  cases v <;> simp only [rn] <;> try (exact rn0_id h hv)
  case tup vs =>
    congr 1
    simp only [LV.lo, List.all_eq_true] at hv
    conv => rhs; rw [← List.map_id vs]
    exact List.map_congr_left fun c hc => rn0_id h (hv c hc)

/-- What M holds, N holds. -/
def Pre' (M N : Mem) : Prop := M.length ≤ N.length ∧ ∀ u, u < M.length → N[u]? = M[u]?

/-- At a function's end: all that was made is let go. -/
theorem cmp_drop {M L : Mem} {v : LV} (hv : v.lo M.length = true) : Cmp M (M ++ L) v M v := by
  refine ⟨⟨fun t => if t < M.length then t else t + L.length, fun t ht => by simp [ht], fun t ht => ?_, fun t blk hl => .inl ?_, fun t t' b b' h h' e => ?_, rn_id (n := M.length) (fun t ht => by simp [ht]) hv⟩, Nat.le_refl _⟩
  · simp only [List.length_append, if_neg (Nat.not_lt.2 ht)]; omega
  · have ht := hl.lt
    simp only [if_pos ht]
    refine ⟨?_, hl⟩
    unfold Live at *
    rw [List.getElem?_append_left ht]; exact hl
  · simpa [h.lt, h'.lt] using e

theorem cmp_drop0 {M : Mem} {v : LV} (hv : v.lo M.length = true) : Cmp M M v M v := by
  have := cmp_drop (M := M) (L := []) hv
  simpa using this

theorem cmp_dropB {M L : Mem} {p q : Prop} [Decidable p] [Decidable q] (h : p ↔ q) : Cmp M (M ++ L) (.val (.bool (decide p))) M (.val (.bool (decide q))) := by
  rw [show decide p = decide q by simp [h]]; exact cmp_drop rfl
theorem cmp_dropF {M L : Mem} {q : Prop} [Decidable q] (h : ¬ q) : Cmp M (M ++ L) (.val (.bool false)) M (.val (.bool (decide q))) := by
  rw [decide_eq_false h]; exact cmp_drop rfl
theorem cmp_dropT {M L : Mem} {q : Prop} [Decidable q] (h : q) : Cmp M (M ++ L) (.val (.bool true)) M (.val (.bool (decide q))) := by
  rw [decide_eq_true h]; exact cmp_drop rfl
theorem cmp_pre {M Me : Mem} {v : LV} (hp : Pre' M Me) (hv : v.lo M.length = true) : Cmp M Me v M v := by
  obtain ⟨L, rfl⟩ : ∃ L, Me = M ++ L := ⟨Me.drop M.length, by
    have h1 : Me.take M.length = M := by
      apply List.ext_getElem?
      intro i
      rw [List.getElem?_take]
      split
      · rename_i h; exact hp.2 i h
      · rename_i h; rw [List.getElem?_eq_none (Nat.le_of_not_lt h)]
    conv => lhs; rw [← List.take_append_drop M.length Me, h1]⟩
  exact cmp_drop hv

def keepR (n j l : Nat) : Nat → Nat := fun t => if t < n then t else if t = n then n + j else t + l
theorem keepR_n {n j l : Nat} : keepR n j l n = n + j := by simp [keepR]
theorem keepR_lt {n j l t : Nat} (h : t < n) : keepR n j l t = t := by simp [keepR, h]

/-- At a function's end: one new block is kept. -/
theorem cmp_keep1 {M L : Mem} {j e : Nat} {cs : List LV} {v ve : LV} (hj : L[j]? = some (some (.row cs true e))) (hcs : cs.all (LV.lo1 M.length) = true) (hv : rn (keepR M.length j L.length) v = ve) :
    Cmp M (M ++ L) ve (M ++ [some (.row cs true e)]) v := by
  have hjl : j < L.length := by
    rcases Nat.lt_or_ge j L.length with h | h
    · exact h
    · rw [List.getElem?_eq_none h] at hj; cases hj
  have hid : ∀ t, t < M.length → keepR M.length j L.length t = t := fun t ht => keepR_lt ht
  refine ⟨⟨keepR M.length j L.length, hid, fun t ht => ?_, fun t blk hl => ?_, fun t t' b b' h h' e => ?_, hv⟩, by simp⟩
  · simp only [List.length_append, List.length_singleton] at ht ⊢
    unfold keepR
    rw [if_neg (by omega), if_neg (by omega)]; omega
  · rcases live_push hl with ⟨h1, h2⟩ | ⟨rfl, rfl⟩
    · refine .inl ?_
      rw [hid t h1]
      refine ⟨?_, h2⟩
      unfold Live at *
      rw [List.getElem?_append_left h1]; exact h2
    · refine .inr ?_
      rw [keepR_n]
      refine ⟨?_, rfl⟩
      unfold Live
      simp only [rnB]
      rw [at_j, hj, rn1s_id hid hcs]
  · have h1 := h.lt
    have h2 := h'.lt
    simp only [List.length_append, List.length_singleton] at h1 h2
    unfold keepR at e
    split at e <;> split at e
    · exact e
    · split at e <;> omega
    · split at e <;> omega
    · omega

end Go.Ab

/- Slices of numbers and of cells in the abstract memory. -/
namespace Go.Ab
open Go

/-- A cell of a box: [3]int. -/
structure Cell where
  a : Int
  b : Int
  c : Int
deriving DecidableEq

instance : Inhabited Cell := ⟨⟨0, 0, 0⟩⟩
def Cell.row (x : Cell) : List LV := [.I x.a, .I x.b, .I x.c]

def triL (cs : List Cell) : List LV := cs.flatMap Cell.row
def intL (xs : List Int) : List LV := xs.map LV.I

/-- Block t of M holds, from place o on, the cells vs. -/
def Has (M : Mem) (t o : Nat) (vs : List LV) : Prop := ∃ row, getRow M t = some row ∧ o + vs.length ≤ row.length ∧ (row.drop o).take vs.length = vs
abbrev Ints (M : Mem) (t o : Nat) (xs : List Int) : Prop := Has M t o (intL xs)
abbrev Tri (M : Mem) (t o : Nat) (cs : List Cell) : Prop := Has M t o (triL cs)

theorem row_lt {M : Mem} {t : Nat} {row : List LV} (h : getRow M t = some row) : t < M.length := by
  obtain ⟨_, _, hl⟩ := getRow_live h; exact hl.lt
theorem Has.lt {M : Mem} {t o : Nat} {vs : List LV} (h : Has M t o vs) : t < M.length := by obtain ⟨_, h1, _⟩ := h; exact row_lt h1
theorem Has.app {M L : Mem} {t o : Nat} {vs : List LV} (h : Has M t o vs) : Has (M ++ L) t o vs := by
  obtain ⟨row, h1, h3, h2⟩ := h
  exact ⟨row, by rw [getRow_app (row_lt h1)]; exact h1, h3, h2⟩
theorem Has.get {M : Mem} {t o k : Nat} {vs : List LV} (h : Has M t o vs) (hk : k < vs.length) : getCell M t (o + k) = vs[k]? := by
  obtain ⟨row, h1, h3, h2⟩ := h
  unfold getCell
  rw [h1]
  simp only [Option.bind_some]
  conv => rhs; rw [← h2]
  rw [List.getElem?_take, if_pos hk, List.getElem?_drop]
theorem Has.gets {M : Mem} {t o k n : Nat} {vs : List LV} (h : Has M t o vs) (hk : k + n ≤ vs.length) : getCells M t (o + k) n = some ((vs.drop k).take n) := by
  obtain ⟨row, h1, h3, h2⟩ := h
  unfold getCells
  rw [h1]
  simp only [Option.bind_some]
  rw [if_pos (by omega)]
  congr 1
  conv => rhs; rw [← h2]
  rw [List.drop_take, List.take_take, List.drop_drop, Nat.min_eq_left (by omega)]
theorem Has.all {M : Mem} {t o : Nat} {vs : List LV} (h : Has M t o vs) : getCells M t o vs.length = some vs := by
  have := h.gets (k := 0) (n := vs.length) (by omega)
  simpa using this
theorem Has.empty {M : Mem} {t o : Nat} {row : List LV} (h : getRow M t = some row) (ho : o ≤ row.length) : Has M t o [] := ⟨row, h, by simpa using ho, by simp⟩
theorem Has.new {M : Mem} {vs : List LV} {w : Bool} {e : Nat} : Has (M ++ [some (.row vs w e)]) M.length 0 vs := ⟨vs, by rw [row_0]; rfl, by simp, by simp⟩

theorem intL_len (xs : List Int) : (intL xs).length = xs.length := by simp [intL]
theorem triL_len (cs : List Cell) : (triL cs).length = cs.length * 3 := by
  induction cs with
  | nil => rfl
  | cons c cs ih => simp only [triL, List.flatMap_cons, List.length_append] at ih ⊢; rw [ih]; simp [Cell.row]; omega
theorem triL_drop (cs : List Cell) : ∀ k, (triL cs).drop (k * 3) = triL (cs.drop k) := by
  induction cs with
  | nil => intro k; simp [triL]
  | cons c cs ih =>
    intro k
    cases k with
    | zero => simp
    | succ k =>
      have : (k + 1) * 3 = k * 3 + 3 := by omega
      rw [this]
      show ((c.row ++ triL cs).drop (k * 3 + 3)) = triL (cs.drop k)
      rw [← ih k, Nat.add_comm, ← List.drop_drop]
      congr 1
theorem triL_at {cs : List Cell} {k : Nat} (hk : k < cs.length) : ((triL cs).drop (k * 3)).take 3 = (cs.getD k default).row := by
  rw [triL_drop]
  have : cs.drop k = cs.getD k default :: cs.drop (k + 1) := by
    rw [List.drop_eq_getElem_cons hk]
    simp [hk]
  rw [this]
  rfl

theorem Ints.get {M : Mem} {t o k : Nat} {xs : List Int} (h : Ints M t o xs) (hk : k < xs.length) : getCell M t (o + k) = some (.I (xs.getD k 0)) := by
  rw [Has.get h (by rw [intL_len]; exact hk)]
  simp [intL, hk]
theorem Tri.get {M : Mem} {t o k : Nat} {cs : List Cell} (h : Tri M t o cs) (hk : k < cs.length) : getCells M t (o + k * 3) 3 = some (cs.getD k default).row := by
  rw [Has.gets h (by rw [triL_len]; omega), triL_at hk]
theorem Tri.get1 {M : Mem} {t o k j : Nat} {cs : List Cell} (h : Tri M t o cs) (hk : k < cs.length) (hj : j < 3) : getCell M t (o + k * 3 + j) = (cs.getD k default).row[j]? := by
  rw [Nat.add_assoc, Has.get h (by rw [triL_len]; omega)]
  have := triL_at hk
  rw [← this, List.getElem?_take, if_pos hj, List.getElem?_drop]
theorem Tri.get_a {M : Mem} {t o k : Nat} {cs : List Cell} (h : Tri M t o cs) (hk : k < cs.length) : getCell M t (o + k * 3) = some (.I (cs.getD k default).a) := by
  exact h.get1 (j := 0) hk (by omega)
theorem Tri.get_b {M : Mem} {t o k : Nat} {cs : List Cell} (h : Tri M t o cs) (hk : k < cs.length) : getCell M t (o + k * 3 + 1) = some (.I (cs.getD k default).b) := by
  exact h.get1 (j := 1) hk (by omega)
theorem Tri.get_c {M : Mem} {t o k : Nat} {cs : List Cell} (h : Tri M t o cs) (hk : k < cs.length) : getCell M t (o + k * 3 + 2) = some (.I (cs.getD k default).c) := by
  exact h.get1 (j := 2) hk (by omega)

theorem intL_lo {n : Nat} (xs : List Int) : (intL xs).all (LV.lo1 n) = true := by
  rw [List.all_eq_true]; intro v hv
  obtain ⟨x, _, rfl⟩ := List.mem_map.1 hv; rfl
theorem triL_lo {n : Nat} (cs : List Cell) : (triL cs).all (LV.lo1 n) = true := by
  rw [List.all_eq_true]; intro v hv
  obtain ⟨x, _, h⟩ := List.mem_flatMap.1 hv
  simp only [Cell.row, List.mem_cons, List.mem_nil_iff, or_false] at h
  rcases h with rfl | rfl | rfl <;> rfl
theorem callK_of {P : Program} {f : FuncId} {args : List LV} {M N : Mem} {v : LV} {A : LV → Mem → Prop} (h : CallsTo P f args M v N) (hA : A v N) : callK P f args M A := h.mono fun _ _ e => by rw [e.1, e.2]; exact hA
theorem callR_of {P : Program} {f : FuncId} {args : List LV} {M : Mem} {A B : LV → Mem → Prop} (h : CallsR P f args M B) (hA : ∀ v N, B v N → A v N) : callK P f args M A := h.mono hA
theorem cell_eq {c d : Cell} : c = d ↔ c.a = d.a ∧ c.b = d.b ∧ c.c = d.c := by
  cases c; cases d; simp
theorem cell_eta {c : Cell} : (⟨c.a, c.b, c.c⟩ : Cell) = c := (rfl)
theorem eqI {a b : Int} (h : a = b) : LV.I a = LV.I b := by rw [h]
theorem eqB {a b : Bool} (h : a = b) : LV.B a = LV.B b := by rw [h]
theorem made_int (n : Nat) : (List.replicate n [LV.val (Value.int IntKind.i64 0)]).flatten = intL (List.replicate n 0) := by
  induction n with
  | zero => rfl
  | succ n ih => simp only [List.replicate_succ, List.flatten_cons, ih]; rfl
theorem intL_get {xs : List Int} {k : Nat} (h : k < xs.length) : (intL xs)[k]? = some (LV.val (Value.int IntKind.i64 (xs.getD k 0))) := by simp [intL, h]
theorem intL_set {xs : List Int} {k : Nat} {v : Int} : (intL xs).set k (.I v) = intL (xs.set k v) := by simp [intL, List.map_set]
theorem splice_int {xs : List Int} {k : Nat} {v : Int} (h : k < xs.length) : splice (intL xs) k [LV.val (Value.int IntKind.i64 v)] = intL (xs.set k v) := by
  rw [splice_1 (by rw [intL_len]; exact h)]; exact intL_set
theorem triL_append (xs ys : List Cell) : triL (xs ++ ys) = triL xs ++ triL ys := by simp [triL]
theorem intL_append (xs ys : List Int) : intL (xs ++ ys) = intL xs ++ intL ys := by simp [intL]
theorem triL_take (cs : List Cell) : ∀ k, (triL cs).take (k * 3) = triL (cs.take k) := by
  induction cs with
  | nil => intro k; simp [triL]
  | cons c cs ih =>
    intro k
    cases k with
    | zero => simp [triL]
    | succ k =>
      have : (k + 1) * 3 = k * 3 + 3 := by omega
      rw [this]
      show ((c.row ++ triL cs).take (k * 3 + 3)) = c.row ++ triL (cs.take k)
      rw [← ih k, List.take_append, List.take_of_length_le (by simp [Cell.row])]
      congr 2
theorem getD_set {α : Type} {xs : List α} {k j : Nat} {v d : α} : (xs.set k v).getD j d = if j = k ∧ k < xs.length then v else xs.getD j d := by
  simp only [List.getD_eq_getElem?_getD]
  by_cases h : k = j
  · subst h
    by_cases hk : k < xs.length
    · simp [hk]
    · simp [hk, List.set_eq_of_length_le (Nat.le_of_not_lt hk)]
  · rw [List.getElem?_set_ne h, if_neg (fun e => h e.1.symm)]
theorem natI (k : Nat) : ((k : Int) + 1) = ((k + 1 : Nat) : Int) := by omega
end Go.Ab

/- Memories that grow: what was there at a function's beginning stays; appends; ends. -/
namespace Go.Ab
open Go
set_option linter.unusedVariables false

/-- What M holds, N holds. -/
abbrev Pre := Pre'
theorem Pre.refl (M : Mem) : Pre M M := ⟨Nat.le_refl _, fun _ _ => rfl⟩
theorem Pre.trans {M N O : Mem} (h : Pre M N) (k : Pre N O) : Pre M O := ⟨Nat.le_trans h.1 k.1, fun u hu => (k.2 u (Nat.lt_of_lt_of_le hu h.1)).trans (h.2 u hu)⟩
theorem Pre.app (M L : Mem) : Pre M (M ++ L) := ⟨by simp, fun u hu => List.getElem?_append_left hu⟩
theorem Pre.app' {M N L : Mem} (h : Pre M N) : Pre M (N ++ L) := h.trans (Pre.app N L)
theorem Live.pre {M N : Mem} {t : Nat} {b : Blk} (h : Live M t b) (hp : Pre M N) : Live N t b := by unfold Live; rw [hp.2 t h.lt]; exact h
theorem Live.app {M L : Mem} {t : Nat} {b : Blk} (h : Live M t b) : Live (M ++ L) t b := h.pre (Pre.app M L)
theorem Has.pre {M N : Mem} {t o : Nat} {vs : List LV} (h : Has M t o vs) (hp : Pre M N) : Has N t o vs := by
  obtain ⟨row, h1, h2⟩ := h
  refine ⟨row, ?_, h2⟩
  unfold getRow at *
  rw [hp.2 t (row_lt (M := M) (by unfold getRow; exact h1))]; exact h1
theorem Live.row {M : Mem} {t e : Nat} {cs : List LV} {w : Bool} (h : Live M t (.row cs w e)) : getRow M t = some cs := by unfold getRow; rw [show M[t]? = _ from h]
theorem Live.esz {M : Mem} {t e : Nat} {cs : List LV} {w : Bool} (h : Live M t (.row cs w e)) : getEsz M t = some e := by unfold getEsz; rw [show M[t]? = _ from h]
theorem Live.cell {M : Mem} {t e o : Nat} {cs : List LV} {w : Bool} (h : Live M t (.row cs w e)) : getCell M t o = cs[o]? := by unfold getCell; rw [h.row]; rfl
theorem Live.cells {M : Mem} {t e o n : Nat} {cs : List LV} {w : Bool} (h : Live M t (.row cs w e)) : getCells M t o n = if o + n ≤ cs.length then some ((cs.drop o).take n) else none := by unfold getCells; rw [h.row]; rfl
theorem Live.setC {M : Mem} {t e o : Nat} {cs vs : List LV} (h : Live M t (.row cs true e)) : setCells M t o vs = if o + vs.length ≤ cs.length then some (M.set t (some (.row (splice cs o vs) true e))) else none := by
  unfold setCells; rw [show M[t]? = _ from h]
theorem Live.has {M : Mem} {t e : Nat} {cs : List LV} {w : Bool} (h : Live M t (.row cs w e)) : Has M t 0 cs := ⟨cs, h.row, by simp, by simp⟩
theorem Live.set_ne {M : Mem} {t u : Nat} {b : Blk} {x : Option Blk} (h : Live M u b) (hn : t ≠ u) : Live (M.set t x) u b := by unfold Live; rw [List.getElem?_set_ne hn]; exact h
theorem Live.set_eq {M : Mem} {t : Nat} {b b' : Blk} (h : Live M t b) : Live (M.set t (some b')) t b' := by unfold Live; simp [h.lt]
theorem Live.new {M L : Mem} {b : Blk} : Live (M ++ some b :: L) M.length b := by unfold Live; rw [at_0]; rfl
theorem Live.newj {M L : Mem} {b : Blk} {j : Nat} (h : L[j]? = some (some b)) : Live (M ++ L) (M.length + j) b := by unfold Live; rw [at_j]; exact h
theorem Pre.set {M N : Mem} {t : Nat} {x : Option Blk} (h : Pre M N) (ht : M.length ≤ t) : Pre M (N.set t x) := ⟨by simpa using h.1, fun u hu => by rw [List.getElem?_set_ne (by omega)]; exact h.2 u hu⟩

theorem appendK_1 {M : Mem} {t n e b : Nat} {acc new : List LV} {A : LV → Mem → Prop} (ht : Live M t (.row acc true e)) (hn : acc.length = n * e) (hne : new.length = e) (he : 0 < e)
    (hb : (n + 1) * b ≤ 140737488355328) (hn' : n + 1 ≤ 9223372036854775807)
    (hA : ∀ M', M'.length = M.length + 2 → Live M' (M.length + 1) (.row (acc ++ new) true e) → (∀ u, u ≠ t → u < M.length → M'[u]? = M[u]?) → A (.ref (M.length + 1) 0 (n + 1)) M') :
    appendK e b (.ref t 0 n) (.ref M.length 0 1) (M ++ [some (.row new true e)]) A := by
  have htl := ht.lt
  have hg : (M ++ [some (Blk.row new true e)])[t]? = some (some (.row acc true e)) := by rw [List.getElem?_append_left htl]; exact ht
  simp only [appendK, lenS, winC, Nat.one_ne_zero, if_false, cells_0, cellsL_z, Nat.one_mul, Nat.zero_add, hne, Nat.le_refl, if_true, List.drop_zero, List.take_of_length_le (Nat.le_of_eq hne)]
  refine andK_mk ⟨hb, hn'⟩ ?_
  simp only [appV, Nat.one_ne_zero, if_false, hg, Nat.zero_add, hn, Nat.le_refl, and_self, if_true, appK, List.drop_zero]
  rw [List.take_of_length_le (by omega), len_app]
  refine hA _ (by simp) ?_ fun u hu hul => ?_
  · unfold Live
    rw [List.getElem?_append_right (by simp)]
    simp
  · rw [List.getElem?_append_left (by simp; omega), List.getElem?_set_ne (fun e => hu e.symm), List.getElem?_append_left hul]

theorem pre_step {M0 M M' : Mem} {t j : Nat} (hp : Pre M0 M) (ht : M0.length ≤ t) (hl : M'.length = M.length + j) (hu : ∀ u, u ≠ t → u < M.length → M'[u]? = M[u]?) : Pre M0 M' :=
  ⟨by have := hp.1; omega, fun u h => by rw [hu u (by omega) (Nat.lt_of_lt_of_le h hp.1)]; exact hp.2 u h⟩
theorem live_step {M M' : Mem} {t u : Nat} {b : Blk} (h : Live M u b) (hne : u ≠ t) (hu : ∀ u, u ≠ t → u < M.length → M'[u]? = M[u]?) : Live M' u b := by
  unfold Live; rw [hu u hne h.lt]; exact h
theorem appendK_int {M : Mem} {t : Nat} {acc : List Int} {v : Int} {A : LV → Mem → Prop} (ht : Live M t (.row (intL acc) true 1)) (hl : acc.length ≤ 1000000000)
    (hA : ∀ M', M'.length = M.length + 2 → Live M' (M.length + 1) (.row (intL (acc ++ [v])) true 1) → (∀ u, u ≠ t → u < M.length → M'[u]? = M[u]?) → A (.ref (M.length + 1) 0 (acc ++ [v]).length) M') :
    appendK 1 8 (.ref t 0 acc.length) (.ref M.length 0 1) (M ++ [some (.row [LV.val (.int .i64 v)] true 1)]) A := by
  refine appendK_1 (acc := intL acc) (new := [LV.I v]) ht (by rw [intL_len]; omega) rfl (by omega) (by omega) (by omega) fun M' h1 h2 h3 => ?_
  have := hA M' h1 (by rw [intL_append]; exact h2) h3
  simpa using this
theorem appendK_cell {M : Mem} {t : Nat} {acc : List Cell} {x y z : Int} {A : LV → Mem → Prop} (ht : Live M t (.row (triL acc) true 3)) (hl : acc.length ≤ 1000000000)
    (hA : ∀ M', M'.length = M.length + 2 → Live M' (M.length + 1) (.row (triL (acc ++ [⟨x, y, z⟩])) true 3) → (∀ u, u ≠ t → u < M.length → M'[u]? = M[u]?) → A (.ref (M.length + 1) 0 (acc ++ [(⟨x, y, z⟩ : Cell)]).length) M') :
    appendK 3 24 (.ref t 0 acc.length) (.ref M.length 0 1) (M ++ [some (.row [LV.val (.int .i64 x), LV.val (.int .i64 y), LV.val (.int .i64 z)] true 3)]) A := by
  refine appendK_1 (acc := triL acc) (new := [LV.I x, LV.I y, LV.I z]) ht (by rw [triL_len]) rfl (by omega) (by omega) (by omega) fun M' h1 h2 h3 => ?_
  have := hA M' h1 (by rw [triL_append]; exact h2) h3
  simpa using this

theorem memK_int {M : Mem} {t k : Nat} {xs : List Int} {v : Int} {A : Mem → Prop} (ht : Live M t (.row (intL xs) true 1)) (hk : k < xs.length)
    (hA : ∀ M', M'.length = M.length → Live M' t (.row (intL (xs.set k v)) true 1) → (∀ u, u ≠ t → u < M.length → M'[u]? = M[u]?) → A M') :
    memK (setCells M t k [.val (.int .i64 v)]) A := by
  rw [ht.setC, if_pos (by rw [intL_len]; simp; omega), splice_int hk]
  exact hA _ (by simp) ht.set_eq fun u hu _ => List.getElem?_set_ne (fun e => hu e.symm)
theorem cmp_keepL {M Me : Mem} {t e : Nat} {cs : List LV} {v ve : LV} (hp : Pre M Me) (ht0 : M.length ≤ t) (ht : Live Me t (.row cs true e)) (hcs : cs.all (LV.lo1 M.length) = true)
    (hv : rn (fun u => if u < M.length then u else if u = M.length then t else u + Me.length) v = ve) : Cmp M Me ve (M ++ [some (.row cs true e)]) v := by
  refine ⟨⟨fun u => if u < M.length then u else if u = M.length then t else u + Me.length, fun u hu => by simp [hu], fun u hu => ?_, fun u blk hl => ?_, fun u u' b b' h h' e => ?_, hv⟩, by simp⟩
  · simp only [List.length_append, List.length_singleton] at hu
    simp only [if_neg (show ¬ u < M.length by omega), if_neg (show ¬ u = M.length by omega)]; omega
  · rcases live_push hl with ⟨h1, h2⟩ | ⟨rfl, rfl⟩
    · refine .inl ⟨?_, h2⟩
      simp only [if_pos h1]
      exact h2.pre hp
    · refine .inr ⟨?_, rfl⟩
      simp only [Nat.lt_irrefl, if_false, if_true]
      unfold Live
      simp only [rnB]
      rw [rn1s_id (n := M.length) (fun u hu => by simp [hu]) hcs]; exact ht
  · have h1 := h.lt
    have h2 := h'.lt
    have h3 := ht.lt
    simp only [List.length_append, List.length_singleton] at h1 h2
    simp only at e
    split at e <;> split at e
    · exact e
    · split at e <;> omega
    · split at e <;> omega
    · omega
end Go.Ab

/- Sets of up to 64 cells as numbers of 64 bits: what operators come to. -/
namespace Go.Ab
open Go

/-- A set, as a number. -/
@[reducible] def LV.W (s : BitVec 64) : LV := .val (.int .u64 ((s.toNat : Nat) : Int))

section
variable {k : IntKind} {a b : Int} {s u : BitVec 64}
theorem bvi_add : binV .add (.val (.int .i64 a)) (.val (.int .i64 b)) = some (.val (.int .i64 (IntKind.i64.wrap (a + b))), True) := bv_add
theorem bvi_sub : binV .sub (.val (.int .i64 a)) (.val (.int .i64 b)) = some (.val (.int .i64 (IntKind.i64.wrap (a - b))), True) := bv_sub
theorem bvi_mul : binV .mul (.val (.int .i64 a)) (.val (.int .i64 b)) = some (.val (.int .i64 (IntKind.i64.wrap (a * b))), True) := bv_mul
theorem bvi_and : binV .and (.val (.int .i64 a)) (.val (.int .i64 b)) = some (.val (.int .i64 (IntKind.i64.wrap ((BitVec.ofInt 64 a &&& BitVec.ofInt 64 b).toNat : Int))), True) := bv_and
theorem bvi_or : binV .or (.val (.int .i64 a)) (.val (.int .i64 b)) = some (.val (.int .i64 (IntKind.i64.wrap ((BitVec.ofInt 64 a ||| BitVec.ofInt 64 b).toNat : Int))), True) := bv_or
theorem bvi_xor : binV .xor (.val (.int .i64 a)) (.val (.int .i64 b)) = some (.val (.int .i64 (IntKind.i64.wrap ((BitVec.ofInt 64 a ^^^ BitVec.ofInt 64 b).toNat : Int))), True) := bv_xor
theorem bvi_shl {k' : IntKind} : binV .shl (.val (.int .i64 a)) (.val (.int k' b)) = some (.val (.int .i64 (IntKind.i64.wrap (a * 2 ^ (min b.toNat 64)))), 0 ≤ b) := bv_shl
theorem bvi_shr {k' : IntKind} : binV .shr (.val (.int .i64 a)) (.val (.int k' b)) = some (.val (.int .i64 (a.fdiv (2 ^ (min b.toNat 64)))), 0 ≤ b) := bv_shr
theorem bvb_add : binV .add (.val (.int .u8 a)) (.val (.int .u8 b)) = some (.val (.int .u8 (IntKind.u8.wrap (a + b))), True) := bv_add
theorem bvb_sub : binV .sub (.val (.int .u8 a)) (.val (.int .u8 b)) = some (.val (.int .u8 (IntKind.u8.wrap (a - b))), True) := bv_sub

theorem uni_neg : unV .neg (.val (.int .i64 a)) = some (.val (.int .i64 (IntKind.i64.wrap (0 - a)))) := un_neg
theorem ofInt_toNat : BitVec.ofInt 64 ((s.toNat : Nat) : Int) = s := by
  apply BitVec.eq_of_toNat_eq
  simp
theorem wrap_toNat : IntKind.u64.wrap ((s.toNat : Nat) : Int) = ((s.toNat : Nat) : Int) := by
  have := s.isLt
  rw [IntKind.wrap_u64]
  omega
theorem w_and : binV .and (.val (.int .u64 ((s.toNat : Nat) : Int))) (.val (.int .u64 ((u.toNat : Nat) : Int))) = some (.val (.int .u64 (((s &&& u).toNat : Nat) : Int)), True) := by
  rw [bv_and]
  show some (LV.val (.int .u64 (IntKind.u64.wrap (((BitVec.ofInt 64 ((s.toNat : Nat) : Int) &&& BitVec.ofInt 64 ((u.toNat : Nat) : Int)).toNat : Nat) : Int))), True) = _
  rw [ofInt_toNat, ofInt_toNat, wrap_toNat]
theorem w_or : binV .or (.val (.int .u64 ((s.toNat : Nat) : Int))) (.val (.int .u64 ((u.toNat : Nat) : Int))) = some (.val (.int .u64 (((s ||| u).toNat : Nat) : Int)), True) := by
  rw [bv_or]
  show some (LV.val (.int .u64 (IntKind.u64.wrap (((BitVec.ofInt 64 ((s.toNat : Nat) : Int) ||| BitVec.ofInt 64 ((u.toNat : Nat) : Int)).toNat : Nat) : Int))), True) = _
  rw [ofInt_toNat, ofInt_toNat, wrap_toNat]
theorem w_xor : binV .xor (.val (.int .u64 ((s.toNat : Nat) : Int))) (.val (.int .u64 ((u.toNat : Nat) : Int))) = some (.val (.int .u64 (((s ^^^ u).toNat : Nat) : Int)), True) := by
  rw [bv_xor]
  show some (LV.val (.int .u64 (IntKind.u64.wrap (((BitVec.ofInt 64 ((s.toNat : Nat) : Int) ^^^ BitVec.ofInt 64 ((u.toNat : Nat) : Int)).toNat : Nat) : Int))), True) = _
  rw [ofInt_toNat, ofInt_toNat, wrap_toNat]
theorem w_not : binV .andNot (.val (.int .u64 ((s.toNat : Nat) : Int))) (.val (.int .u64 ((u.toNat : Nat) : Int))) = some (.val (.int .u64 (((s &&& ~~~u).toNat : Nat) : Int)), True) := by
  rw [bv_not]
  show some (LV.val (.int .u64 (IntKind.u64.wrap (((BitVec.ofInt 64 ((s.toNat : Nat) : Int) &&& ~~~BitVec.ofInt 64 ((u.toNat : Nat) : Int)).toNat : Nat) : Int))), True) = _
  rw [ofInt_toNat, ofInt_toNat, wrap_toNat]
theorem w_and1 : binV .and (.val (.int .u64 ((s.toNat : Nat) : Int))) (.val (.int .u64 1)) = some (.val (.int .u64 (((s &&& 1#64).toNat : Nat) : Int)), True) := by
  have h := w_and (s := s) (u := 1#64)
  rw [show (((1#64).toNat : Nat) : Int) = 1 from rfl] at h; exact h
theorem w_or0 : binV .or (.val (.int .u64 0)) (.val (.int .u64 ((u.toNat : Nat) : Int))) = some (.val (.int .u64 (((0#64 ||| u).toNat : Nat) : Int)), True) := by
  have h := w_or (s := 0#64) (u := u)
  rw [show (((0#64).toNat : Nat) : Int) = 0 from rfl] at h; exact h
theorem w_shl1 {k' : IntKind} : binV .shl (.val (.int .u64 1)) (.val (.int k' b)) = some (.val (.int .u64 (((1#64 <<< b.toNat).toNat : Nat) : Int)), 0 ≤ b) := by
  rw [bv_shl]
  congr 1
  rw [show (IntKind.u64.wrap (1 * 2 ^ (min b.toNat IntKind.u64.bits))) = (((1#64 <<< b.toNat).toNat : Nat) : Int) from ?_]
  rw [IntKind.wrap_u64, Int.one_mul, BitVec.toNat_shiftLeft, Nat.shiftLeft_eq]
  show (2 : Int) ^ min b.toNat 64 % 18446744073709551616 = _
  rcases Nat.lt_or_ge b.toNat 64 with h | h
  · rw [Nat.min_eq_left (Nat.le_of_lt h)]
    simp
  · rw [Nat.min_eq_right h]
    have e : (1#64).toNat * 2 ^ b.toNat % 2 ^ 64 = 0 := by
      obtain ⟨d, hd⟩ : ∃ d, b.toNat = 64 + d := ⟨b.toNat - 64, by omega⟩
      rw [hd, Nat.pow_add]
      simp
    rw [e]; rfl
theorem w_shr {k' : IntKind} : binV .shr (.val (.int .u64 ((s.toNat : Nat) : Int))) (.val (.int k' b)) = some (.val (.int .u64 (((s >>> b.toNat).toNat : Nat) : Int)), 0 ≤ b) := by
  rw [bv_shr]
  congr 1
  rw [show (((s.toNat : Nat) : Int).fdiv (2 ^ (min b.toNat IntKind.u64.bits))) = (((s >>> b.toNat).toNat : Nat) : Int) from ?_]
  rw [Int.fdiv_eq_ediv_of_nonneg _ (Int.pow_nonneg (by decide)), BitVec.toNat_ushiftRight, Nat.shiftRight_eq_div_pow]
  show ((s.toNat : Nat) : Int) / 2 ^ min b.toNat 64 = _
  rcases Nat.lt_or_ge b.toNat 64 with h | h
  · rw [Nat.min_eq_left (Nat.le_of_lt h)]
    push_cast
    rfl
  · rw [Nat.min_eq_right h]
    have h1 : s.toNat < 2 ^ 64 := s.isLt
    have h2 : s.toNat / 2 ^ b.toNat = 0 := Nat.div_eq_of_lt (Nat.lt_of_lt_of_le h1 (Nat.pow_le_pow_right (by decide) h))
    rw [h2]
    omega
theorem w_sub1 : binV .sub (.val (.int .u64 ((s.toNat : Nat) : Int))) (.val (.int .u64 1)) = some (.val (.int .u64 (((s - 1#64).toNat : Nat) : Int)), True) := by
  rw [bv_sub, IntKind.wrap_u64, BitVec.toNat_sub]
  have := s.isLt
  congr 4
  show (((s.toNat : Nat) : Int) - 1) % 18446744073709551616 = (((2 ^ 64 - 1 + s.toNat) % 2 ^ 64 : Nat) : Int)
  omega
theorem w_neg : unV .neg (.val (.int .u64 ((s.toNat : Nat) : Int))) = some (.val (.int .u64 (((-s).toNat : Nat) : Int))) := by
  rw [un_neg, IntKind.wrap_u64, BitVec.toNat_neg]
  have := s.isLt
  congr 3
  show (0 - ((s.toNat : Nat) : Int)) % 18446744073709551616 = (((2 ^ 64 - s.toNat) % 2 ^ 64 : Nat) : Int)
  omega
theorem w_inj : (((s.toNat : Nat) : Int) = ((u.toNat : Nat) : Int)) = (s = u) := by
  refine propext ⟨fun h => BitVec.eq_of_toNat_eq (by omega), fun h => by rw [h]⟩
theorem w_eq0 : (((s.toNat : Nat) : Int) = 0) = (s = 0#64) := by
  refine propext ⟨fun h => BitVec.eq_of_toNat_eq (by simp; omega), fun h => by rw [h]; rfl⟩
theorem w_eq1 : (((s.toNat : Nat) : Int) = 1) = (s = 1#64) := by
  refine propext ⟨fun h => BitVec.eq_of_toNat_eq (by simp; omega), fun h => by rw [h]; rfl⟩
end
end Go.Ab
