/- Parts of the proof of FnHolesSaid: F C_LFnHoles K_LFnHoles Sa Sb Sc Sd Se Sw Sx C_Hg K_Hg Sf C_Ha K_Ha C_Gb K_Gb C_Ga K_Ga Pg Ga C_Da K_Da Da Gb C_Uf K_Uf C_Ue K_Ue C_Uc K_Uc C_Ub K_Ub C_Ua K_Ua Gd Ua C_Eb K_Eb C_Ea K_Ea Ma. -/
import Derived.Test.YtggnfklcgopflaaA3
import Derived.Test.YtggnfklcgopflaaProg
import Derived.KernelRfl
import Derived.IntWalk
import Derived.Laws.Bits64
set_option linter.all false
namespace Go.Ab.F
abbrev main_main : Nat := 0
abbrev gosem_cut : Nat := 1
abbrev gosem_cut_init : Nat := 2
abbrev laws_FnStairOrders : Nat := 3
abbrev laws_FnHoles : Nat := 4
abbrev laws_FnDominoes : Nat := 5
abbrev laws_FnTables : Nat := 6
abbrev laws_FnStairCounts : Nat := 7
abbrev laws_FnExactRankStair : Nat := 8
abbrev laws_FnExactFirstAlike : Nat := 9
abbrev laws_FnExactFewestSwitches : Nat := 10
abbrev laws_vBig : Nat := 11
abbrev spec_DrawStairOrders : Nat := 12
abbrev impl_StairOrders : Nat := 13
abbrev spec_StairOrders : Nat := 14
abbrev spec_DrawStairLines : Nat := 15
abbrev laws_vCut : Nat := 16
abbrev impl_StairLines : Nat := 17
abbrev spec_StairLines : Nat := 18
abbrev impl_TurnStair : Nat := 19
abbrev laws_vHeap : Nat := 20
abbrev impl_StairCorners : Nat := 21
abbrev impl_TakeCube : Nat := 22
abbrev laws_rBig : Nat := 23
abbrev spec_DrawCavitiesOf : Nat := 24
abbrev impl_CavitiesOf : Nat := 25
abbrev spec_CavitiesOf : Nat := 26
abbrev impl_IsHeap : Nat := 27
abbrev laws_rLists : Nat := 28
abbrev impl_ClustersOf : Nat := 29
abbrev spec_ClustersOf : Nat := 30
abbrev impl_BodyCounts : Nat := 31
abbrev spec_BodyCounts : Nat := 32
abbrev impl_EulerNumber : Nat := 33
abbrev spec_EulerNumber : Nat := 34
abbrev impl_TunnelsOf : Nat := 35
abbrev spec_TunnelsOf : Nat := 36
abbrev spec_DrawFullHeap : Nat := 37
abbrev impl_FullHeap : Nat := 38
abbrev impl_FillCavities : Nat := 39
abbrev impl_PartsOf : Nat := 40
abbrev laws_rAll : Nat := 41
abbrev spec_DrawCountDominoes : Nat := 42
abbrev impl_CountDominoes : Nat := 43
abbrev spec_CountDominoes : Nat := 44
abbrev impl_MostDominoes : Nat := 45
abbrev spec_MostDominoes : Nat := 46
abbrev impl_FreeParity : Nat := 47
abbrev impl_MirrorHeap : Nat := 48
abbrev spec_DrawFirstTable : Nat := 49
abbrev impl_FirstTable : Nat := 50
abbrev spec_FirstTable : Nat := 51
abbrev laws_rTable : Nat := 52
abbrev impl_CountTables : Nat := 53
abbrev spec_CountTables : Nat := 54
abbrev impl_CanTable : Nat := 55
abbrev spec_CanTable : Nat := 56
abbrev spec_DrawLinesWith : Nat := 57
abbrev impl_LinesWith : Nat := 58
abbrev spec_LinesWith : Nat := 59
abbrev laws_rInts : Nat := 60
abbrev impl_FullLines : Nat := 61
abbrev spec_FullLines : Nat := 62
abbrev impl_ViewOf : Nat := 63
abbrev laws_rSum : Nat := 64
abbrev spec_DrawAllStairs : Nat := 65
abbrev impl_AllStairs : Nat := 66
abbrev spec_AllStairs : Nat := 67
abbrev impl_CountStairs : Nat := 68
abbrev spec_CountStairs : Nat := 69
abbrev spec_DrawStairAt : Nat := 70
abbrev impl_StairAt : Nat := 71
abbrev spec_StairAt : Nat := 72
abbrev spec_DrawLeastStair : Nat := 73
abbrev impl_LeastStair : Nat := 74
abbrev spec_LeastStair : Nat := 75
abbrev spec_DrawGreatestStair : Nat := 76
abbrev impl_GreatestStair : Nat := 77
abbrev spec_GreatestStair : Nat := 78
abbrev laws_vTable : Nat := 79
abbrev impl_RankStair : Nat := 80
abbrev impl_IsStair : Nat := 81
abbrev laws_vWithin : Nat := 82
abbrev impl_StairHollows : Nat := 83
abbrev laws_vIn : Nat := 84
abbrev laws_vLess : Nat := 85
abbrev laws_szHeap : Nat := 86
abbrev spec_RankStair : Nat := 87
abbrev laws_toHeap : Nat := 88
abbrev laws_eqHeap : Nat := 89
abbrev spec_FirstAlike : Nat := 90
abbrev impl_FirstAlike : Nat := 91
abbrev laws_markHeap : Nat := 92
abbrev laws_heldHeap : Nat := 93
abbrev spec_FewestSwitches : Nat := 94
abbrev impl_FewestSwitches : Nat := 95
abbrev spec_l2Empty : Nat := 96
abbrev spec_l1Cur_among : Nat := 97
abbrev spec_l1Cur_pick : Nat := 98
abbrev spec_StairHollows : Nat := 99
abbrev spec_l2With : Nat := 100
abbrev spec_l1Cur_one : Nat := 101
abbrev spec_l1Cur_stair5 : Nat := 102
abbrev impl_isStair : Nat := 103
abbrev impl_StairOrders_1 : Nat := 104
abbrev impl_Heap_box : Nat := 105
abbrev impl_box_stairCorners : Nat := 106
abbrev impl_Heap_cubes : Nat := 107
abbrev spec_l5Good : Nat := 108
abbrev spec_l5Orders : Nat := 109
abbrev spec_l1Cur_someHeap : Nat := 110
abbrev spec_l5Exchanged : Nat := 111
abbrev impl_orders : Nat := 112
abbrev impl_Heap_same : Nat := 113
abbrev impl_Heap_turned : Nat := 114
abbrev spec_l5Same : Nat := 115
abbrev laws_vCells : Nat := 116
abbrev impl_box_list : Nat := 117
abbrev impl_isCell : Nat := 118
abbrev impl_Heap_hasCube : Nat := 119
abbrev impl_box_heap : Nat := 120
abbrev impl_box_index : Nat := 121
abbrev spec_DrawBareFaces : Nat := 122
abbrev impl_box_lists : Nat := 123
abbrev impl_Heap_cavities : Nat := 124
abbrev spec_l2Heap : Nat := 125
abbrev spec_l6Cavities : Nat := 126
abbrev impl_box_valid : Nat := 127
abbrev impl_box_has : Nat := 128
abbrev impl_compareCells : Nat := 129
abbrev laws_rCells : Nat := 130
abbrev impl_Heap_clusters : Nat := 131
abbrev spec_l6Clusters : Nat := 132
abbrev impl_Heap_counts : Nat := 133
abbrev spec_l6Counts : Nat := 134
abbrev impl_Heap_euler : Nat := 135
abbrev spec_l6Euler : Nat := 136
abbrev spec_DrawEmptyHeap : Nat := 137
abbrev impl_box_full : Nat := 138
abbrev impl_Heap_enclosed : Nat := 139
abbrev impl_box_parts : Nat := 140
abbrev spec_l1Cur_heap : Nat := 141
abbrev spec_l1Cur_cell : Nat := 142
abbrev spec_l2Box : Nat := 143
abbrev impl_Heap_free : Nat := 144
abbrev impl_set_count : Nat := 145
abbrev impl_CountDominoes_1 : Nat := 146
abbrev impl_box_near : Nat := 147
abbrev spec_l9Free : Nat := 148
abbrev spec_l9Dominoes : Nat := 149
abbrev impl_MostDominoes_1 : Nat := 150
abbrev impl_box_cell : Nat := 151
abbrev spec_l9Even : Nat := 152
abbrev spec_l9Match : Nat := 153
abbrev impl_parity : Nat := 154
abbrev impl_isDirection : Nat := 155
abbrev impl_Heap_moved : Nat := 156
abbrev impl_MirrorHeap_1 : Nat := 157
abbrev impl_box_mirror : Nat := 158
abbrev spec_DrawCountTables : Nat := 159
abbrev impl_areSums : Nat := 160
abbrev impl_firstTable : Nat := 161
abbrev spec_l4Lists : Nat := 162
abbrev spec_l4Tables : Nat := 163
abbrev spec_l1Own : Nat := 164
abbrev impl_countTables : Nat := 165
abbrev spec_DrawViewOf : Nat := 166
abbrev impl_Heap_linesWith : Nat := 167
abbrev spec_l1In : Nat := 168
abbrev spec_l4With : Nat := 169
abbrev spec_l2Long : Nat := 170
abbrev impl_box_view : Nat := 171
abbrev spec_l1Cur_sides : Nat := 172
abbrev impl_box_stairs : Nat := 173
abbrev spec_l5Few : Nat := 174
abbrev spec_l5All : Nat := 175
abbrev impl_box_countStairs : Nat := 176
abbrev spec_l2Sides : Nat := 177
abbrev spec_l5Count : Nat := 178
abbrev impl_within : Nat := 179
abbrev impl_box_stack : Nat := 180
abbrev spec_l2Stack : Nat := 181
abbrev impl_box_below : Nat := 182
abbrev spec_l2Own : Nat := 183
abbrev impl_box_those : Nat := 184
abbrev impl_GreatestStair_1 : Nat := 185
abbrev spec_l2All : Nat := 186
abbrev spec_l2Has : Nat := 187
abbrev spec_l5Stair : Nat := 188
abbrev laws_vInts : Nat := 189
abbrev slices_IndexFunc_SSint_Sint : Nat := 190
abbrev impl_RankStair_1 : Nat := 191
abbrev slices_Equal_Sint_int : Nat := 192
abbrev impl_Heap_heights : Nat := 193
abbrev impl_StairHollows_1 : Nat := 194
abbrev impl_box_isStair : Nat := 195
abbrev laws_szIntA3S : Nat := 196
abbrev spec_l2Heights : Nat := 197
abbrev spec_l1Same : Nat := 198
abbrev laws_toIntA3S : Nat := 199
abbrev laws_eqIntA3S : Nat := 200
abbrev spec_l4Two : Nat := 201
abbrev spec_l4Third : Nat := 202
abbrev spec_l2Others : Nat := 203
abbrev spec_l4Sums : Nat := 204
abbrev spec_l2Layer : Nat := 205
abbrev impl_areDirections : Nat := 206
abbrev impl_third : Nat := 207
abbrev impl_others : Nat := 208
abbrev impl_Heap_layer : Nat := 209
abbrev impl_FirstAlike_1 : Nat := 210
abbrev impl_set_has : Nat := 211
abbrev laws_markIntA3S : Nat := 212
abbrev laws_heldIntA3S : Nat := 213
abbrev spec_l2Alike : Nat := 214
abbrev spec_l4Alike : Nat := 215
abbrev spec_l4Far : Nat := 216
abbrev impl_areAlike : Nat := 217
abbrev impl_alike : Nat := 218
abbrev impl_tableSwitches : Nat := 219
abbrev spec_l1Cur_next : Nat := 220
abbrev spec_l2Before : Nat := 221
abbrev spec_l2Made : Nat := 222
abbrev impl_box_stairCorners_1 : Nat := 223
abbrev spec_l5Corners : Nat := 224
abbrev spec_l2Without : Nat := 225
abbrev spec_OtherCells : Nat := 226
abbrev slices_Equal_SA3int_A3int : Nat := 227
abbrev impl_Heap_turned_1 : Nat := 228
abbrev impl_box_size : Nat := 229
abbrev spec_l1Cur_hollow : Nat := 230
abbrev spec_l2In : Nat := 231
abbrev spec_l2Parts : Nat := 232
abbrev spec_l6Enclosed : Nat := 233
abbrev slices_Compare_Sint_int : Nat := 234
abbrev impl_Heap_clusters_1 : Nat := 235
abbrev spec_l6Touch : Nat := 236
abbrev spec_l6In : Nat := 237
abbrev impl_Heap_enclosed_1 : Nat := 238
abbrev impl_box_grown : Nat := 239
abbrev spec_l1Most : Nat := 240
abbrev spec_l1Least : Nat := 241
abbrev math_bits_OnesCount64 : Nat := 242
abbrev spec_l2Near : Nat := 243
abbrev spec_l9Place : Nat := 244
abbrev spec_l1Cur_sums : Nat := 245
abbrev impl_allWithin : Nat := 246
abbrev impl_tables : Nat := 247
abbrev impl_firstTable_1 : Nat := 248
abbrev spec_l4Rows : Nat := 249
abbrev impl_countTables_1 : Nat := 250
abbrev spec_l1Cur_direction : Nat := 251
abbrev spec_l2View : Nat := 252
abbrev impl_box_lines : Nat := 253
abbrev impl_box_line : Nat := 254
abbrev impl_box_stairs_1 : Nat := 255
abbrev slices_Clone_Sint_int : Nat := 256
abbrev spec_l5Gcd : Nat := 257
abbrev impl_box_stack_1 : Nat := 258
abbrev impl_box_below_1 : Nat := 259
abbrev laws_toIntA3 : Nat := 260
abbrev laws_eqIntA3 : Nat := 261
abbrev spec_l4Key : Nat := 262
abbrev spec_l4Next : Nat := 263
abbrev spec_l1Has : Nat := 264
abbrev impl_alike_1 : Nat := 265
abbrev spec_l6Steps : Nat := 266
abbrev spec_l6Beside : Nat := 267
abbrev cmp_Compare_int : Nat := 268
abbrev spec_l2Apart : Nat := 269
abbrev impl_tables_1 : Nat := 270
abbrev slices_Max_Sint_int : Nat := 271
abbrev cmp_isNaN_int : Nat := 272
abbrev runtime_boundsError_Error : Nat := 273
abbrev runtime_boundsError_RuntimeError : Nat := 274
abbrev runtime_errorString_Error : Nat := 275
abbrev runtime_errorString_RuntimeError : Nat := 276
abbrev runtime_plainError_Error : Nat := 277
abbrev runtime_plainError_RuntimeError : Nat := 278
abbrev runtime_errorAddressString_Error : Nat := 279
abbrev runtime_errorAddressString_RuntimeError : Nat := 280
abbrev runtime_TypeAssertionError_Error : Nat := 281
abbrev runtime_TypeAssertionError_RuntimeError : Nat := 282
abbrev runtime_PanicNilError_Error : Nat := 283
abbrev runtime_PanicNilError_RuntimeError : Nat := 284
abbrev internal_abi_Type_Align : Nat := 285
abbrev internal_runtime_maps_unhashableTypeError_Error : Nat := 286
abbrev internal_runtime_maps_unhashableTypeError_RuntimeError : Nat := 287
abbrev spec_l1Cur_any1 : Nat := 288
abbrev internal_abi_Kind_String : Nat := 289
end Go.Ab.F

namespace Go.Ab.C
open Go.Ab
def laws_FnHoles : AFn :=
 ⟨1, 263, [.tmp 2],
 .seq (.ops [(none, .mv 2 (.c (.B false)))])
 (.seq (.seq (.ops [(none, .mv 35 (.t 0)),
 (none, .call (some 36) F.laws_rBig [(.t 35)])])
 (.cond (.t 36) (.seq (.ops [(none, .mv 2 (.c (.B true)))])
 (.ret))
 (.skip)))
 (.seq (.ops [(none, .mv 37 (.t 0)),
 (none, .call (some 38) F.spec_DrawCavitiesOf [(.t 37)]),
 (none, .alloc 3 [(.I 0), (.I 0), (.I 0), .nil]),
 (none, .store 4 (.t 3) (.t 38))])
 (.seq (.ops [(none, .loadN 40 4 (.t 3)),
 (none, .call (some 41) F.impl_CavitiesOf [(.t 40)]),
 (none, .mv 39 (.t 41)),
 (none, .extract 42 (.t 39) 0),
 (none, .extract 43 (.t 39) 1),
 (none, .mv 4 (.t 42)),
 (none, .mv 5 (.t 43))])
 (.seq (.seq (.ops [(none, .loadN 45 4 (.t 3)),
 (none, .call (some 46) F.spec_CavitiesOf [(.t 45)]),
 (none, .mv 44 (.t 46)),
 (none, .extract 47 (.t 44) 0),
 (none, .extract 48 (.t 44) 1),
 (none, .mv 6 (.t 47)),
 (none, .mv 7 (.t 48))])
 (.seq (.ops [(none, .mv 49 (.t 5)),
 (none, .mv 50 (.t 7)),
 (none, .eqb 51 true (.t 49) (.t 50)),
 (none, .mv 52 (.t 51)),
 (some (52, false), .mv 53 (.t 5)),
 (some (52, false), .loadN 54 4 (.t 3)),
 (some (52, false), .call (some 55) F.impl_IsHeap [(.t 54)]),
 (some (52, false), .eqb 56 true (.t 53) (.t 55)),
 (none, .pick 57 (.t 52) (.c (.B true)) (.t 56)),
 (none, .mv 58 (.t 57)),
 (some (58, false), .mv 59 (.t 4)),
 (some (58, false), .mv 60 (.t 6)),
 (some (58, false), .call (some 61) F.laws_rLists [(.t 59), (.t 60)]),
 (some (58, false), .un 62 .not (.t 61)),
 (none, .pick 63 (.t 58) (.c (.B true)) (.t 62))])
 (.cond (.t 63) (.seq (.ops [(none, .mv 2 (.c (.B false)))])
 (.ret))
 (.skip))))
 (.seq (.ops [(none, .loadN 65 4 (.t 3)),
 (none, .call (some 66) F.impl_ClustersOf [(.t 65)]),
 (none, .mv 64 (.t 66)),
 (none, .extract 67 (.t 64) 0),
 (none, .extract 68 (.t 64) 1),
 (none, .mv 8 (.t 67)),
 (none, .mv 9 (.t 68))])
 (.seq (.seq (.ops [(none, .loadN 70 4 (.t 3)),
 (none, .call (some 71) F.spec_ClustersOf [(.t 70)]),
 (none, .mv 69 (.t 71)),
 (none, .extract 72 (.t 69) 0),
 (none, .extract 73 (.t 69) 1),
 (none, .mv 10 (.t 72)),
 (none, .mv 11 (.t 73))])
 (.seq (.ops [(none, .mv 74 (.t 9)),
 (none, .mv 75 (.t 11)),
 (none, .eqb 76 true (.t 74) (.t 75)),
 (none, .mv 77 (.t 76)),
 (some (77, false), .mv 78 (.t 9)),
 (some (77, false), .mv 79 (.t 5)),
 (some (77, false), .eqb 80 true (.t 78) (.t 79)),
 (none, .pick 81 (.t 77) (.c (.B true)) (.t 80)),
 (none, .mv 82 (.t 81)),
 (some (82, false), .mv 83 (.t 8)),
 (some (82, false), .mv 84 (.t 10)),
 (some (82, false), .call (some 85) F.laws_rLists [(.t 83), (.t 84)]),
 (some (82, false), .un 86 .not (.t 85)),
 (none, .pick 87 (.t 82) (.c (.B true)) (.t 86))])
 (.cond (.t 87) (.seq (.ops [(none, .mv 2 (.c (.B false)))])
 (.ret))
 (.skip))))
 (.seq (.ops [(none, .loadN 89 4 (.t 3)),
 (none, .call (some 90) F.impl_BodyCounts [(.t 89)]),
 (none, .mv 88 (.t 90)),
 (none, .extract 91 (.t 88) 0),
 (none, .extract 92 (.t 88) 1),
 (none, .alloc 12 [(.I 0), (.I 0), (.I 0), (.I 0)]),
 (none, .store 4 (.t 12) (.t 91)),
 (none, .mv 13 (.t 92))])
 (.seq (.seq (.ops [(none, .loadN 94 4 (.t 3)),
 (none, .call (some 95) F.spec_BodyCounts [(.t 94)]),
 (none, .mv 93 (.t 95)),
 (none, .extract 96 (.t 93) 0),
 (none, .extract 97 (.t 93) 1),
 (none, .alloc 14 [(.I 0), (.I 0), (.I 0), (.I 0)]),
 (none, .store 4 (.t 14) (.t 96)),
 (none, .mv 15 (.t 97))])
 (.seq (.ops [(none, .loadN 98 4 (.t 12)),
 (none, .loadN 99 4 (.t 14)),
 (none, .eqs 100 true 4 (.t 98) (.t 99)),
 (none, .mv 101 (.t 100)),
 (some (101, false), .mv 102 (.t 13)),
 (some (101, false), .mv 103 (.t 15)),
 (some (101, false), .eqb 104 true (.t 102) (.t 103)),
 (none, .pick 105 (.t 101) (.c (.B true)) (.t 104)),
 (none, .mv 106 (.t 105)),
 (some (106, false), .mv 107 (.t 13)),
 (some (106, false), .mv 108 (.t 5)),
 (some (106, false), .eqb 109 true (.t 107) (.t 108)),
 (none, .pick 110 (.t 106) (.c (.B true)) (.t 109))])
 (.cond (.t 110) (.seq (.ops [(none, .mv 2 (.c (.B false)))])
 (.ret))
 (.skip))))
 (.seq (.ops [(none, .loadN 112 4 (.t 3)),
 (none, .call (some 113) F.impl_EulerNumber [(.t 112)]),
 (none, .mv 111 (.t 113)),
 (none, .extract 114 (.t 111) 0),
 (none, .extract 115 (.t 111) 1),
 (none, .mv 16 (.t 114)),
 (none, .mv 17 (.t 115))])
 (.seq (.seq (.ops [(none, .loadN 117 4 (.t 3)),
 (none, .call (some 118) F.spec_EulerNumber [(.t 117)]),
 (none, .mv 116 (.t 118)),
 (none, .extract 119 (.t 116) 0),
 (none, .extract 120 (.t 116) 1),
 (none, .mv 18 (.t 119)),
 (none, .mv 19 (.t 120))])
 (.seq (.ops [(none, .mv 121 (.t 16)),
 (none, .mv 122 (.t 18)),
 (none, .bin 123 .neq (.t 121) (.t 122)),
 (none, .mv 124 (.t 123)),
 (some (124, false), .mv 125 (.t 17)),
 (some (124, false), .mv 126 (.t 19)),
 (some (124, false), .eqb 127 true (.t 125) (.t 126)),
 (none, .pick 128 (.t 124) (.c (.B true)) (.t 127)),
 (none, .mv 129 (.t 128)),
 (some (129, false), .mv 130 (.t 17)),
 (some (129, false), .mv 131 (.t 5)),
 (some (129, false), .eqb 132 true (.t 130) (.t 131)),
 (none, .pick 133 (.t 129) (.c (.B true)) (.t 132))])
 (.cond (.t 133) (.seq (.ops [(none, .mv 2 (.c (.B false)))])
 (.ret))
 (.skip))))
 (.seq (.ops [(none, .loadN 135 4 (.t 3)),
 (none, .call (some 136) F.impl_TunnelsOf [(.t 135)]),
 (none, .mv 134 (.t 136)),
 (none, .extract 137 (.t 134) 0),
 (none, .extract 138 (.t 134) 1),
 (none, .mv 20 (.t 137)),
 (none, .mv 21 (.t 138))])
 (.seq (.seq (.ops [(none, .loadN 140 4 (.t 3)),
 (none, .call (some 141) F.spec_TunnelsOf [(.t 140)]),
 (none, .mv 139 (.t 141)),
 (none, .extract 142 (.t 139) 0),
 (none, .extract 143 (.t 139) 1),
 (none, .mv 22 (.t 142)),
 (none, .mv 23 (.t 143))])
 (.seq (.ops [(none, .mv 144 (.t 20)),
 (none, .mv 145 (.t 22)),
 (none, .bin 146 .neq (.t 144) (.t 145)),
 (none, .mv 147 (.t 146)),
 (some (147, false), .mv 148 (.t 21)),
 (some (147, false), .mv 149 (.t 23)),
 (some (147, false), .eqb 150 true (.t 148) (.t 149)),
 (none, .pick 151 (.t 147) (.c (.B true)) (.t 150)),
 (none, .mv 152 (.t 151)),
 (some (152, false), .mv 153 (.t 21)),
 (some (152, false), .mv 154 (.t 5)),
 (some (152, false), .eqb 155 true (.t 153) (.t 154)),
 (none, .pick 156 (.t 152) (.c (.B true)) (.t 155)),
 (none, .mv 157 (.t 156)),
 (some (157, false), .mv 158 (.t 20)),
 (some (157, false), .bin 159 .lss (.t 158) (.c (.I 0))),
 (none, .pick 160 (.t 157) (.c (.B true)) (.t 159))])
 (.cond (.t 160) (.seq (.ops [(none, .mv 2 (.c (.B false)))])
 (.ret))
 (.skip))))
 (.seq (.ops [(none, .mv 162 (.t 0)),
 (none, .call (some 163) F.spec_DrawFullHeap [(.t 162)]),
 (none, .mv 161 (.t 163)),
 (none, .extract 164 (.t 161) 0),
 (none, .extract 165 (.t 161) 1),
 (none, .extract 166 (.t 161) 2),
 (none, .mv 24 (.t 164)),
 (none, .mv 25 (.t 165)),
 (none, .mv 26 (.t 166))])
 (.seq (.seq (.ops [(none, .mv 168 (.t 24)),
 (none, .mv 169 (.t 25)),
 (none, .mv 170 (.t 26)),
 (none, .call (some 171) F.impl_FullHeap [(.t 168), (.t 169), (.t 170)]),
 (none, .mv 167 (.t 171)),
 (none, .extract 172 (.t 167) 0),
 (none, .extract 173 (.t 167) 1),
 (none, .alloc 27 [(.I 0), (.I 0), (.I 0), .nil]),
 (none, .store 4 (.t 27) (.t 172)),
 (none, .mv 28 (.t 173))])
 (.seq (.ops [(none, .mv 174 (.t 28))])
 (.cond (.t 174) (.seq (.ops [(none, .loadN 176 4 (.t 27)),
 (none, .call (some 177) F.impl_EulerNumber [(.t 176)]),
 (none, .mv 175 (.t 177)),
 (none, .extract 178 (.t 175) 0),
 (none, .extract 179 (.t 175) 1),
 (none, .mv 29 (.t 178)),
 (none, .mv 30 (.t 179))])
 (.seq (.ops [(none, .mv 180 (.t 30)),
 (none, .un 181 .not (.t 180)),
 (none, .mv 182 (.t 181)),
 (some (182, false), .mv 183 (.t 29)),
 (some (182, false), .bin 184 .neq (.t 183) (.c (.I 1))),
 (none, .pick 185 (.t 182) (.c (.B true)) (.t 184))])
 (.cond (.t 185) (.seq (.ops [(none, .mv 2 (.c (.B false)))])
 (.ret))
 (.skip))))
 (.skip))))
 (.seq (.seq (.ops [(none, .mv 186 (.t 5)),
 (none, .un 187 .not (.t 186))])
 (.cond (.t 187) (.seq (.ops [(none, .mv 2 (.c (.B true)))])
 (.ret))
 (.skip)))
 (.seq (.ops [(none, .loadN 189 4 (.t 3)),
 (none, .call (some 190) F.impl_FillCavities [(.t 189)]),
 (none, .mv 188 (.t 190)),
 (none, .extract 191 (.t 188) 0),
 (none, .extract 192 (.t 188) 1),
 (none, .alloc 31 [(.I 0), (.I 0), (.I 0), .nil]),
 (none, .store 4 (.t 31) (.t 191)),
 (none, .mv 32 (.t 192))])
 (.seq (.ops [(none, .loadN 194 4 (.t 3)),
 (none, .call (some 195) F.impl_PartsOf [(.t 194)]),
 (none, .mv 193 (.t 195)),
 (none, .extract 196 (.t 193) 0),
 (none, .extract 197 (.t 193) 1),
 (none, .mv 33 (.t 196)),
 (none, .mv 34 (.t 197))])
 (.seq (.seq (.draw [⟨(none, .mv 198 (.t 32)), [], []⟩,
 ⟨(none, .un 199 .not (.t 198)), [], []⟩,
 ⟨(none, .mv 200 (.t 199)), [], []⟩,
 ⟨(some (200, false), .mv 201 (.t 34)), [], []⟩,
 ⟨(some (200, false), .un 202 .not (.t 201)), [], []⟩,
 ⟨(none, .pick 203 (.t 200) (.c (.B true)) (.t 202)), [], []⟩,
 ⟨(none, .mv 204 (.t 203)), [], []⟩,
 ⟨(some (204, false), .fieldAddr 205 (.t 31) 3), [], []⟩,
 ⟨(some (204, false), .load1 206 (.t 205)), [], []⟩,
 ⟨(some (204, false), .len 207 (.t 206)), [], []⟩,
 ⟨(some (204, false), .fieldAddr 208 (.t 3) 3), [], []⟩,
 ⟨(some (204, false), .load1 209 (.t 208)), [], []⟩,
 ⟨(some (204, false), .len 210 (.t 209)), [], []⟩,
 ⟨(some (204, false), .mv 211 (.t 4)), [], []⟩,
 ⟨(some (204, false), .call (some 212) F.laws_rAll [(.t 211)]), [], [7, 8, 9, 10, 11, 12]⟩,
 ⟨(some (204, false), .bin 213 .add (.t 210) (.t 212)), [], []⟩,
 ⟨(some (204, false), .bin 214 .neq (.t 207) (.t 213)), [], []⟩,
 ⟨(none, .pick 215 (.t 204) (.c (.B true)) (.t 214)), [], []⟩,
 ⟨(none, .mv 216 (.t 215)), [], []⟩,
 ⟨(some (216, false), .mv 217 (.t 8)), [], []⟩,
 ⟨(some (216, false), .len 218 (.t 217)), [], []⟩,
 ⟨(some (216, false), .mv 219 (.t 33)), [], []⟩,
 ⟨(some (216, false), .len 220 (.t 219)), [], []⟩,
 ⟨(some (216, false), .bin 221 .gtr (.t 218) (.t 220)), [], []⟩,
 ⟨(none, .pick 222 (.t 216) (.c (.B true)) (.t 221)), [], []⟩,
 ⟨(none, .mv 223 (.t 222)), [], []⟩,
 ⟨(some (223, false), .mv 224 (.t 8)), [], []⟩,
 ⟨(some (223, false), .fieldAddr 226 (.t 3) 3), [], []⟩,
 ⟨(some (223, false), .load1 227 (.t 226)), [], []⟩,
 ⟨(some (223, false), .len 228 (.t 227)), [], []⟩,
 ⟨(some (223, false), .call (some 225) F.laws_rAll [(.t 224)]), [], [27, 28, 29]⟩,
 ⟨(some (223, false), .bin 229 .neq (.t 225) (.t 228)), [], []⟩,
 ⟨(none, .pick 230 (.t 223) (.c (.B true)) (.t 229)), [], []⟩])
 (.cond (.t 230) (.seq (.ops [(none, .mv 2 (.c (.B false)))])
 (.ret))
 (.skip)))
 (.seq (.ops [(none, .idxA 231 4 1 (.t 12) (.c (.I 3))),
 (none, .load1 232 (.t 231)),
 (none, .fieldAddr 233 (.t 3) 3),
 (none, .load1 234 (.t 233)),
 (none, .len 235 (.t 234)),
 (none, .bin 236 .eql (.t 232) (.t 235)),
 (none, .mv 237 (.t 236)),
 (some (237, true), .mv 238 (.t 16)),
 (some (237, true), .idxA 239 4 1 (.t 12) (.c (.I 0))),
 (some (237, true), .load1 240 (.t 239)),
 (some (237, true), .idxA 241 4 1 (.t 12) (.c (.I 1))),
 (some (237, true), .load1 242 (.t 241)),
 (some (237, true), .bin 243 .sub (.t 240) (.t 242)),
 (some (237, true), .idxA 244 4 1 (.t 12) (.c (.I 2))),
 (some (237, true), .load1 245 (.t 244)),
 (some (237, true), .bin 246 .add (.t 243) (.t 245)),
 (some (237, true), .idxA 247 4 1 (.t 12) (.c (.I 3))),
 (some (237, true), .load1 248 (.t 247)),
 (some (237, true), .bin 249 .sub (.t 246) (.t 248)),
 (some (237, true), .bin 250 .eql (.t 238) (.t 249)),
 (none, .pick 251 (.t 237) (.t 250) (.c (.B false))),
 (none, .mv 252 (.t 251)),
 (some (252, true), .mv 253 (.t 16)),
 (some (252, true), .mv 254 (.t 8)),
 (some (252, true), .len 255 (.t 254)),
 (some (252, true), .mv 256 (.t 4)),
 (some (252, true), .len 257 (.t 256)),
 (some (252, true), .bin 258 .add (.t 255) (.t 257)),
 (some (252, true), .mv 259 (.t 20)),
 (some (252, true), .bin 260 .sub (.t 258) (.t 259)),
 (some (252, true), .bin 261 .eql (.t 253) (.t 260)),
 (none, .pick 262 (.t 252) (.t 261) (.c (.B false))),
 (none, .mv 2 (.t 262))])
 (.ret))))))))))))))))))))⟩
end Go.Ab.C

namespace Go.Ab.K
open Go Go.Ab
theorem laws_FnHoles : prepF Go.Proofs.Try.prog F.laws_FnHoles = some C.laws_FnHoles := by kernel_rfl
end Go.Ab.K

namespace Go.Ab
open Go

/-! ### What a step leaves -/
def condB (t : Bool) (A B : Prop) : Prop := (t = true → A) ∧ (t = false → B)
def condV (v : LV) (A B : Prop) : Prop := match v with | .val (.bool t) => condB t A B | _ => False
def guardV (v : LV) (want : Bool) (A B : Prop) : Prop := match v with
  | .val (.bool b) => condB (b == want) A B
  | .tup [] => B
  | _ => False
def andK (c : Prop) (A : Prop) : Prop := c ∧ A
def sopK (r : Option (Nat × LV × Prop)) (fr : Fr) (M : Mem) (K : Fr → Mem → Prop) : Prop := match r with
  | some (d, v, c) => andK c (K (upd fr d v) M)
  | none => False
def aopK (r : Option (Nat × (Nat → LV) × Blk × Prop)) (fr : Fr) (M : Mem) (K : Fr → Mem → Prop) : Prop := match r with
  | some (d, v, blk, c) => andK c (K (upd fr d (v M.length)) (M ++ [some blk]))
  | none => False
def memK (r : Option Mem) (A : Mem → Prop) : Prop := match r with
  | some M => A M
  | none => False
def appK (r : Option (LV × Mem)) (A : LV → Mem → Prop) : Prop := match r with
  | some (v, M) => A v M
  | none => False
def callK (P : Program) (f : FuncId) (args : List LV) (M : Mem) (A : LV → Mem → Prop) : Prop := CallsR P f args M A
def storeK (n : Nat) (a x : LV) (M : Mem) (A : Mem → Prop) : Prop := match a, x.cells with
  | .ptr t off, some cs => andK (cs.length = n) (memK (setCells M t off cs) A)
  | _, _ => False
def appendK (esz bytes : Nat) (s x : LV) (M : Mem) (A : LV → Mem → Prop) : Prop := match lenS s, lenS x, winC M esz x with
  | some m, some n, some new => andK ((m + n) * bytes ≤ 140737488355328 ∧ m + n ≤ 9223372036854775807) (appK (appV M esz s n new) A ∨ appS M esz s n new A)
  | _, _, _ => False
def copyK (esz : Nat) (s x : LV) (M : Mem) (A : Nat → Mem → Prop) : Prop := match s, lenS x, winC M esz x with
  | .ref t off m, some n, some new => memK (setCells M t off (new.take (min n m * esz))) (A (min n m))
  | _, _, _ => False
def clearK (e : Nat) (z : List LV) (x : LV) (M : Mem) (A : Mem → Prop) : Prop := match x with
  | .ref t off m => andK (z.length = e) (memK (setCells M t off (List.replicate m z).flatten) A)
  | _ => False
def callVK (P : Program) (x : LV) (args : List LV) (M : Mem) (A : LV → Mem → Prop) : Prop := match x with
  | .clo f caps => callK P f (args ++ caps.map fun p => .ptr p.1 p.2) M A
  | _ => False

def opsK (P : Program) (r : List GOp) (K : Fr → Mem → Prop) : Fr → Mem → Prop := fun fr M => EvOps P r fr M K
def putK (K : Fr → Mem → Prop) (fr : Fr) (d : Option Nat) : LV → Mem → Prop := fun v N => K (putO fr d v) N
def cntK (K : Fr → Mem → Prop) (fr : Fr) (d : Nat) : Nat → Mem → Prop := fun n N => K (upd fr d (.I (n : Int))) N
def seqK (P : Program) (b : ACode) (Q : AExit → Fr → Mem → Prop) : AExit → Fr → Mem → Prop := thenK (fun fr M => EvC P b fr M Q) Q
def evdK (P : Program) (r : List DOp) (lg : List (Option Nat)) (K : Fr → Mem → Prop) : Fr → Mem → Prop := fun fr M => EvD P r fr M lg K
def evd1K (P : Program) (r : List DOp) (lg : List (Option Nat)) (n : Nat) (K : Fr → Mem → Prop) : Fr → Mem → Prop := fun fr M => EvD P r fr M (lg ++ [if M.length = n then none else some n]) K
def evd2K (P : Program) (r : List DOp) (lg : List (Option Nat)) (M : Mem) (ks us : List Nat) (K : Fr → Mem → Prop) : Fr → Mem → Prop := fun fr N => andK (KeepL us M (unmask M ks N)) (EvD P r fr (unmask M ks N) (lg ++ [none]) K)
def endQ (res : List ARes) (M N : Mem) (v : LV) : AExit → Fr → Mem → Prop := fun e fr Me => (e = .normal ∨ e = .ret) ∧ ∃ ve, resV fr Me res = some ve ∧ Cmp M Me ve N v
def endR (res : List ARes) (Post : LV → Mem → Prop) : AExit → Fr → Mem → Prop := fun e fr Me => (e = .normal ∨ e = .ret) ∧ ∃ ve, resV fr Me res = some ve ∧ Post ve Me
def postK (Post : LV → Mem → Prop) (v : LV) (M : Mem) : Prop := Post v M
def rndK (m : Nat) (I : Nat → Fr → Mem → Prop) : Fr → Mem → Prop := fun fr' M' => ∃ m', m' < m ∧ I m' fr' M'

def condC (v : LV) (P : Program) (a b : ACode) (fr : Fr) (M : Mem) (Q : AExit → Fr → Mem → Prop) : Prop := condV v (EvC P a fr M Q) (EvC P b fr M Q)
def guardO (v : LV) (w : Bool) (P : Program) (o : AOp) (fr : Fr) (M : Mem) (K : Fr → Mem → Prop) : Prop := guardV v w (EvOp P o fr M K) (K (putO fr o.dst undefL) M)

@[congr] theorem condB_congr {t t' : Bool} {A B : Prop} (h : t = t') : condB t A B = condB t' A B := by rw [h]
@[congr] theorem andK_congr {c c' : Prop} {A : Prop} (h : c = c') : andK c A = andK c' A := by rw [h]
@[congr] theorem sopK_congr {r r' : Option (Nat × LV × Prop)} {fr : Fr} {M : Mem} {K : Fr → Mem → Prop} (h : r = r') : sopK r fr M K = sopK r' fr M K := by rw [h]
@[congr] theorem aopK_congr {r r' : Option (Nat × (Nat → LV) × Blk × Prop)} {fr : Fr} {M : Mem} {K : Fr → Mem → Prop} (h : r = r') : aopK r fr M K = aopK r' fr M K := by rw [h]
@[congr] theorem memK_congr {r r' : Option Mem} {A : Mem → Prop} (h : r = r') : memK r A = memK r' A := by rw [h]
@[congr] theorem appK_congr {r r' : Option (LV × Mem)} {A : LV → Mem → Prop} (h : r = r') : appK r A = appK r' A := by rw [h]
@[congr] theorem postK_congr {Post : LV → Mem → Prop} {v v' : LV} {M M' : Mem} (h : v = v') (h' : M = M') : postK Post v M = postK Post v' M' := by rw [h, h']
@[congr] theorem callK_congr {P : Program} {f : FuncId} {args args' : List LV} {M M' : Mem} {A : LV → Mem → Prop} (h : args = args') (h' : M = M') : callK P f args M A = callK P f args' M' A := by rw [h, h']
@[congr] theorem storeK_congr {n : Nat} {a a' x x' : LV} {M M' : Mem} {A : Mem → Prop} (h : a = a') (h' : x = x') (h'' : M = M') : storeK n a x M A = storeK n a' x' M' A := by rw [h, h', h'']
@[congr] theorem appendK_congr {esz b : Nat} {s s' x x' : LV} {M M' : Mem} {A : LV → Mem → Prop} (h : s = s') (h' : x = x') (h'' : M = M') : appendK esz b s x M A = appendK esz b s' x' M' A := by rw [h, h', h'']
@[congr] theorem copyK_congr {esz : Nat} {s s' x x' : LV} {M M' : Mem} {A : Nat → Mem → Prop} (h : s = s') (h' : x = x') (h'' : M = M') : copyK esz s x M A = copyK esz s' x' M' A := by rw [h, h', h'']
@[congr] theorem clearK_congr {e : Nat} {z : List LV} {x x' : LV} {M M' : Mem} {A : Mem → Prop} (h : x = x') (h' : M = M') : clearK e z x M A = clearK e z x' M' A := by rw [h, h']
@[congr] theorem callVK_congr {P : Program} {x x' : LV} {args args' : List LV} {M M' : Mem} {A : LV → Mem → Prop} (h : x = x') (h' : args = args') (h'' : M = M') : callVK P x args M A = callVK P x' args' M' A := by rw [h, h', h'']
@[congr] theorem EvC_congr {P : Program} {a : ACode} {fr : Fr} {M M' : Mem} {Q : AExit → Fr → Mem → Prop} (h : M = M') : EvC P a fr M Q = EvC P a fr M' Q := by rw [h]

section
variable {P : Program} {fr : Fr} {M : Mem} {K : Fr → Mem → Prop} {Q : AExit → Fr → Mem → Prop} {A B : Prop}

theorem condB_t : condB true A B = A := by simp [condB]
theorem condB_f : condB false A B = B := by simp [condB]
section
variable {a b : ACode} {o : AOp} {t : Bool} {p : Prop}
theorem condC_t : condC (.val (.bool true)) P a b fr M Q = EvC P a fr M Q := condB_t
theorem condC_f : condC (.val (.bool false)) P a b fr M Q = EvC P b fr M Q := condB_f
theorem condC_not : condC (.val (.bool (!t))) P a b fr M Q = condC (.val (.bool t)) P b a fr M Q := by cases t <;> simp only [Bool.not_true, Bool.not_false, condC_t, condC_f]
theorem condC_dec [Decidable p] (h1 : p → EvC P a fr M Q) (h2 : ¬ p → EvC P b fr M Q) : condC (.val (.bool (decide p))) P a b fr M Q := by
  by_cases h : p
  · rw [decide_eq_true h, condC_t]; exact h1 h
  · rw [decide_eq_false h, condC_f]; exact h2 h
theorem condC_dt [Decidable p] (h : p) : condC (.val (.bool (decide p))) P a b fr M Q = EvC P a fr M Q := by rw [decide_eq_true h, condC_t]
theorem condC_df [Decidable p] (h : ¬ p) : condC (.val (.bool (decide p))) P a b fr M Q = EvC P b fr M Q := by rw [decide_eq_false h, condC_f]
theorem guardO_tt : guardO (.val (.bool true)) true P o fr M K = EvOp P o fr M K := condB_t
theorem guardO_ff : guardO (.val (.bool false)) false P o fr M K = EvOp P o fr M K := condB_t
theorem guardO_tf : guardO (.val (.bool true)) false P o fr M K = K (putO fr o.dst undefL) M := condB_f
theorem guardO_ft : guardO (.val (.bool false)) true P o fr M K = K (putO fr o.dst undefL) M := condB_f
theorem guardO_not {w : Bool} : guardO (.val (.bool (!t))) w P o fr M K = guardO (.val (.bool t)) (!w) P o fr M K := by cases t <;> cases w <;> rfl
theorem guardO_u {w : Bool} : guardO (.tup []) w P o fr M K = K (putO fr o.dst undefL) M := (rfl)
theorem guardO_ud {w : Bool} : guardO undefL w P o fr M K = K (putO fr o.dst undefL) M := (rfl)
theorem guardO_dtt [Decidable p] (h : p) : guardO (.val (.bool (decide p))) true P o fr M K = EvOp P o fr M K := by rw [decide_eq_true h, guardO_tt]
theorem guardO_dtf [Decidable p] (h : p) : guardO (.val (.bool (decide p))) false P o fr M K = K (putO fr o.dst undefL) M := by rw [decide_eq_true h, guardO_tf]
theorem guardO_dft [Decidable p] (h : ¬ p) : guardO (.val (.bool (decide p))) true P o fr M K = K (putO fr o.dst undefL) M := by rw [decide_eq_false h, guardO_ft]
theorem guardO_dff [Decidable p] (h : ¬ p) : guardO (.val (.bool (decide p))) false P o fr M K = EvOp P o fr M K := by rw [decide_eq_false h, guardO_ff]
end
theorem andK_d {c A : Prop} (h : c) : andK c A = A := by simp [andK, h]
theorem andK_t : andK True A = A := by simp [andK]
theorem sopK_s {d : Nat} {v : LV} {c : Prop} : sopK (some (d, v, c)) fr M K = andK c (K (upd fr d v) M) := (rfl)
theorem aopK_s {d : Nat} {v : Nat → LV} {blk : Blk} {c : Prop} : aopK (some (d, v, blk, c)) fr M K = andK c (K (upd fr d (v M.length)) (M ++ [some blk])) := (rfl)
theorem memK_s {A : Mem → Prop} : memK (some M) A = A M := (rfl)
theorem appK_s {A : LV → Mem → Prop} {v : LV} : appK (some (v, M)) A = A v M := (rfl)
theorem storeK_v {n t off : Nat} {v : Value} {A : Mem → Prop} : storeK n (.ptr t off) (.val v) M A = andK (1 = n) (memK (setCells M t off [.val v]) A) := (rfl)
theorem storeK_r {n t off a b c : Nat} {A : Mem → Prop} : storeK n (.ptr t off) (.ref a b c) M A = andK (1 = n) (memK (setCells M t off [.ref a b c]) A) := (rfl)
theorem storeK_p {n t off a b : Nat} {A : Mem → Prop} : storeK n (.ptr t off) (.ptr a b) M A = andK (1 = n) (memK (setCells M t off [.ptr a b]) A) := (rfl)
theorem storeK_m {n t off a : Nat} {A : Mem → Prop} : storeK n (.ptr t off) (.mp a) M A = andK (1 = n) (memK (setCells M t off [.mp a]) A) := (rfl)
theorem storeK_f {n t off : Nat} {f : FuncId} {c : List (Nat × Nat)} {A : Mem → Prop} : storeK n (.ptr t off) (.clo f c) M A = andK (1 = n) (memK (setCells M t off [.clo f c]) A) := (rfl)
theorem storeK_a {n t off : Nat} {cs : List LV} {A : Mem → Prop} : storeK n (.ptr t off) (.agg cs) M A = andK (cs.length = n) (memK (setCells M t off cs) A) := (rfl)

/-! ### Operations -/
theorem ev_sop {o : AOp} (h : o.kind = 0) : EvOp P o fr M K = sopK (sop o fr M) fr M K := by
  have hn := kind0_aop (fr := fr) (M := M) h
  have hs : o.special = false := kind_ne2 (by rw [h]; decide)
  apply propext
  rw [evop_plain hs, hn]
  cases hh : sop o fr M with
  | none => simp [sopK]
  | some r => obtain ⟨d, v, c⟩ := r; simp [sopK, andK]
theorem ev_aop {o : AOp} (h : o.kind = 1) : EvOp P o fr M K = aopK (aop o fr M) fr M K := by
  have hn := kind1_sop (fr := fr) (M := M) h
  have hs : o.special = false := kind_ne2 (by rw [h]; decide)
  apply propext
  rw [evop_plain hs, hn]
  cases hh : aop o fr M with
  | none => simp [aopK]
  | some r => obtain ⟨d, v, b, c⟩ := r; simp [aopK, andK]
theorem ev_store {n : Nat} {a x : Opd} : EvOp P (.store n a x) fr M K = storeK n (a.ev fr) (x.ev fr) M (K fr) := by
  simp only [EvOp, storeK, andK, memK]
  rfl
theorem ev_append {d e b : Nat} {s x : Opd} : EvOp P (.append d e b s x) fr M K = appendK e b (s.ev fr) (x.ev fr) M (putK K fr (some d)) := by
  simp only [EvOp, appendK, andK, appK, and_assoc, putK, putO]
  rfl
theorem ev_copy {d e : Nat} {s x : Opd} : EvOp P (.copy d e s x) fr M K = copyK e (s.ev fr) (x.ev fr) M (cntK K fr d) := by
  simp only [EvOp, copyK, memK, cntK]
  rfl
theorem ev_clear {d : Option Nat} {e : Nat} {z : List LV} {x : Opd} : EvOp P (.clear d e z x) fr M K = clearK e z (x.ev fr) M (putK K fr d undefL) := by
  simp only [EvOp, clearK, andK, memK, putK]
  rfl
theorem clearK_r {e t off m : Nat} {z : List LV} {A : Mem → Prop} : clearK e z (.ref t off m) M A = andK (z.length = e) (memK (setCells M t off (List.replicate m z).flatten) A) := (rfl)
theorem ev_call {d : Option Nat} {f : FuncId} {args : List Opd} : EvOp P (.call d f args) fr M K = callK P f (args.map (·.ev fr)) M (putK K fr d) := (rfl)
theorem ev_callV {d : Option Nat} {x : Opd} {args : List Opd} : EvOp P (.callV d x args) fr M K = callVK P (x.ev fr) (args.map (·.ev fr)) M (putK K fr d) := by
  simp only [EvOp, callVK, callK, putK]
  rfl
theorem callVK_c {f : FuncId} {caps : List (Nat × Nat)} {args : List LV} {A : LV → Mem → Prop} : callVK P (.clo f caps) args M A = callK P f (args ++ caps.map fun p => .ptr p.1 p.2) M A := (rfl)
theorem evg_n {o : AOp} : EvG P (none, o) fr M K = EvOp P o fr M K := (rfl)
theorem evg_s {s : Nat} {w : Bool} {o : AOp} : EvG P (some (s, w), o) fr M K = guardO (fr s) w P o fr M K := by
  simp only [EvG, guardO, guardV, condB]
  cases hs : fr s with
  | val v => cases v <;> simp
  | tup vs => cases vs <;> rfl
  | _ => rfl
theorem evops_n : EvOps P [] fr M K = K fr M := (rfl)
theorem evops_c {g : GOp} {r : List GOp} : EvOps P (g :: r) fr M K = EvG P g fr M (opsK P r K) := (rfl)
theorem opsK_r {r : List GOp} : opsK P r K fr M = EvOps P r fr M K := (rfl)
theorem putK_r {d : Option Nat} {v : LV} : putK K fr d v M = K (putO fr d v) M := (rfl)
theorem cntK_r {d n : Nat} : cntK K fr d n M = K (upd fr d (.I (n : Int))) M := (rfl)
theorem putO_s {d : Nat} {v : LV} : putO fr (some d) v = upd fr d v := (rfl)
theorem putO_n {v : LV} : putO fr none v = fr := (rfl)
theorem upd_at {d i : Nat} {v : LV} : upd fr d v i = if i = d then v else fr i := (rfl)
theorem ev_t {i : Nat} : (Opd.t i).ev fr = fr i := (rfl)
theorem ev_c {v : LV} : (Opd.c v).ev fr = v := (rfl)

/-! ### Code -/
theorem evc_skip : EvC P .skip fr M Q = Q .normal fr M := (rfl)
theorem evc_ops {l : List GOp} : EvC P (.ops l) fr M Q = EvOps P l fr M (Q .normal) := (rfl)
theorem evc_draw {l : List DOp} : EvC P (.draw l) fr M Q = EvD P l fr M [] (Q .normal) := (rfl)
theorem evc_seq {a b : ACode} : EvC P (.seq a b) fr M Q = EvC P a fr M (seqK P b Q) := (rfl)
theorem seqK_n {b : ACode} : seqK P b Q .normal fr M = EvC P b fr M Q := (rfl)
theorem seqK_e {b : ACode} {i : Nat} : seqK P b Q (.exit i) fr M = Q (.exit i) fr M := (rfl)
theorem seqK_r {b : ACode} : seqK P b Q .ret fr M = Q .ret fr M := (rfl)
theorem evc_cond {c : Opd} {a b : ACode} : EvC P (.cond c a b) fr M Q = condC (c.ev fr) P a b fr M Q := by
  simp only [EvC, condC, condV, condB]
  rfl
theorem evc_block {id : Nat} {a : ACode} : EvC P (.block id a) fr M Q = EvC P a fr M (blockK id Q) := (rfl)
theorem evc_exit {id : Nat} : EvC P (.exit id) fr M Q = Q (.exit id) fr M := (rfl)
theorem evc_ret : EvC P .ret fr M Q = Q .ret fr M := (rfl)
theorem thenK_n : thenK K Q .normal fr M = K fr M := (rfl)
theorem thenK_e {i : Nat} : thenK K Q (.exit i) fr M = Q (.exit i) fr M := (rfl)
theorem thenK_r : thenK K Q .ret fr M = Q .ret fr M := (rfl)
theorem endQ_r {res : List ARes} {N0 N : Mem} {v : LV} : endQ res N0 N v .ret fr M = ∃ ve, resV fr M res = some ve ∧ Cmp N0 M ve N v := by simp [endQ]
theorem endQ_n {res : List ARes} {N0 N : Mem} {v : LV} : endQ res N0 N v .normal fr M = ∃ ve, resV fr M res = some ve ∧ Cmp N0 M ve N v := by simp [endQ]
theorem endR_r {res : List ARes} {Post : LV → Mem → Prop} : endR res Post .ret fr M = ∃ ve, resV fr M res = some ve ∧ postK Post ve M := by simp [endR, postK]
theorem endR_n {res : List ARes} {Post : LV → Mem → Prop} : endR res Post .normal fr M = ∃ ve, resV fr M res = some ve ∧ postK Post ve M := by simp [endR, postK]
theorem blockK_n {id : Nat} : blockK id Q .normal fr M = Q .normal fr M := (rfl)
theorem blockK_e {id i : Nat} : blockK id Q (.exit i) fr M = if i = id then Q .normal fr M else Q (.exit i) fr M := (rfl)
theorem blockK_r {id : Nat} : blockK id Q .ret fr M = Q .ret fr M := (rfl)

theorem ev_loop {a : ACode} (I : Nat → Fr → Mem → Prop) (m : Nat) (h0 : I m fr M) (h : ∀ m fr M, I m fr M → EvC P a fr M (thenK (rndK m I) Q)) : EvC P (.loop a) fr M Q := ⟨I, m, h0, h⟩

theorem calls_run {f : FuncId} {fn : AFn} {args : List LV} {N : Mem} {v : LV} (hp : prepF P f = some fn) (hl : args.length = fn.np) (h : EvC P fn.body (fun i => args.getD i undefL) M (endQ fn.res M N v)) : CallsTo P f args M v N :=
  calls_of_ev hp ⟨hl, h⟩

theorem callsR_run {f : FuncId} {fn : AFn} {args : List LV} {Post : LV → Mem → Prop} (hp : prepF P f = some fn) (hl : args.length = fn.np) (h : EvC P fn.body (fun i => args.getD i undefL) M (endR fn.res Post)) : CallsR P f args M Post :=
  callsR_of_ev hp ⟨hl, h⟩

/-! ### Regions that draw -/
theorem evd_n {lg : List (Option Nat)} : EvD P [] fr M lg K = K fr M := (rfl)
theorem evd_0 {g : GOp} {msk unl : List Nat} {r : List DOp} {lg : List (Option Nat)} (h : g.2.kind = 0) :
    EvD P (⟨g, msk, unl⟩ :: r) fr M lg K = EvG P g fr M (evdK P r (lg ++ [keyOf g.2 fr]) K) := by
  simp only [EvD, h, if_true]; rfl
theorem evd_1 {g : GOp} {msk unl : List Nat} {r : List DOp} {lg : List (Option Nat)} (h : g.2.kind = 1) :
    EvD P (⟨g, msk, unl⟩ :: r) fr M lg K = EvG P g fr M (evd1K P r lg M.length K) := by
  simp only [EvD, h, if_true, if_neg (show ¬ (1 : Nat) = 0 by omega)]; rfl
theorem evd_2 {g : GOp} {msk unl : List Nat} {r : List DOp} {lg : List (Option Nat)} (h : g.2.kind = 2) :
    EvD P (⟨g, msk, unl⟩ :: r) fr M lg K = EvG P g fr (maskM (selL msk lg) M) (evd2K P r lg M (selL msk lg) (selL unl lg) K) := by
  simp only [EvD, h, if_neg (show ¬ (2 : Nat) = 1 by omega), if_neg (show ¬ (2 : Nat) = 0 by omega)]; rfl
theorem evdK_r {r : List DOp} {lg : List (Option Nat)} : evdK P r lg K fr M = EvD P r fr M lg K := (rfl)
theorem evd1K_r {r : List DOp} {lg : List (Option Nat)} {n : Nat} : evd1K P r lg n K fr M = EvD P r fr M (lg ++ [if M.length = n then none else some n]) K := (rfl)
theorem evd2K_r {r : List DOp} {lg : List (Option Nat)} {N : Mem} {ks us : List Nat} : evd2K P r lg M ks us K fr N = andK (KeepL us M (unmask M ks N)) (EvD P r fr (unmask M ks N) (lg ++ [none]) K) := (rfl)

theorem ifo_pos {α : Type} {c : Prop} [Decidable c] {a : Option α} (h : c) : (if c then a else none) = a := if_pos h
theorem selL_n {lg : List (Option Nat)} : selL [] lg = [] := (rfl)
theorem selL_c {p : Nat} {ps : List Nat} {lg : List (Option Nat)} : selL (p :: ps) lg = (match (lg[p]?).join with | some k => k :: selL ps lg | none => selL ps lg) := by
  unfold selL
  rw [List.filterMap_cons]
  cases (lg[p]?).join <;> rfl
theorem unmask_c {k : Nat} {ks : List Nat} {N : Mem} : unmask M (k :: ks) N = unmask M ks (match M[k]? with | some (some b) => N.set k (some b) | _ => N) := (rfl)
theorem keepL_c {k : Nat} {ks : List Nat} {N : Mem} : KeepL (k :: ks) M N = ((∀ b, M[k]? = some (some b) → N[k]? = some (some b)) ∧ KeepL ks M N) := by
  simp [KeepL]
theorem keep1_refl {o : Option (Option Blk)} : (∀ b, o = some (some b) → o = some (some b)) = True := by simp
theorem join_ss {α : Type} {x : Option α} : (some x).join = x := (rfl)
theorem add1_ne {n : Nat} : (n + 1 = n) = False := by simp
theorem maskM_n : maskM [] M = M := (rfl)
theorem maskM_c {k : Nat} {ks : List Nat} : maskM (k :: ks) M = maskM ks (M.set k none) := (rfl)
theorem unmask_n {N : Mem} : unmask M [] N = N := (rfl)
theorem keepL_n {N : Mem} : KeepL [] M N = True := by simp [KeepL]
theorem keepL_refl {ks : List Nat} : KeepL ks M M = True := by simp [KeepL]
theorem keepL_app {ks : List Nat} {L : Mem} : KeepL ks M (M ++ L) = True := by
  simp only [KeepL, eq_iff_iff, iff_true]
  intro k _ b h
  have : k < M.length := Live.lt h
  rw [List.getElem?_append_left this]; exact h

/-! ### Memory -/
theorem wrap_id {x : Int} (h : -9223372036854775808 ≤ x ∧ x ≤ 9223372036854775807) : IntKind.i64.wrap x = x := IntWalk.i64_in x h
def getRowL (L : Mem) (t : Nat) : Option (List LV) := getRow L t
def getEszL (L : Mem) (t : Nat) : Option Nat := getEsz L t
def getCellL (L : Mem) (t o : Nat) : Option LV := getCell L t o
def getCellsL (L : Mem) (t o n : Nat) : Option (List LV) := getCells L t o n
def setCellsL (L : Mem) (t o : Nat) (vs : List LV) : Option Mem := setCells L t o vs
theorem getEsz_app {L : Mem} {t : Nat} (h : t < M.length) : getEsz (M ++ L) t = getEsz M t := by unfold getEsz; rw [List.getElem?_append_left h]
theorem getRow_app {L : Mem} {t : Nat} (h : t < M.length) : getRow (M ++ L) t = getRow M t := by unfold getRow; rw [List.getElem?_append_left h]
theorem getCells_app {L : Mem} {t o n : Nat} (h : t < M.length) : getCells (M ++ L) t o n = getCells M t o n := by unfold getCells; rw [getRow_app h]
theorem at_0 {L : Mem} : (M ++ L)[M.length]? = L[0]? := by rw [List.getElem?_append_right (Nat.le_refl _), Nat.sub_self]
theorem at_j {L : Mem} {j : Nat} : (M ++ L)[M.length + j]? = L[j]? := by rw [List.getElem?_append_right (Nat.le_add_right _ _), Nat.add_sub_cancel_left]
theorem set_0 {L : Mem} {x : Option Blk} : (M ++ L).set M.length x = M ++ L.set 0 x := by simp
theorem set_j {L : Mem} {j : Nat} {x : Option Blk} : (M ++ L).set (M.length + j) x = M ++ L.set j x := by simp
theorem len_app {L : Mem} : (M ++ L).length = M.length + L.length := by simp
theorem row_0 {L : Mem} : getRow (M ++ L) M.length = getRowL L 0 := by unfold getRowL getRow; rw [at_0]
theorem row_j {L : Mem} {j : Nat} : getRow (M ++ L) (M.length + j) = getRowL L j := by unfold getRowL getRow; rw [at_j]
theorem esz_0 {L : Mem} : getEsz (M ++ L) M.length = getEszL L 0 := by unfold getEszL getEsz; rw [at_0]
theorem esz_j {L : Mem} {j : Nat} : getEsz (M ++ L) (M.length + j) = getEszL L j := by unfold getEszL getEsz; rw [at_j]
theorem cell_0 {L : Mem} {o : Nat} : getCell (M ++ L) M.length o = getCellL L 0 o := by unfold getCellL getCell; rw [row_0]; rfl
theorem cell_j {L : Mem} {j o : Nat} : getCell (M ++ L) (M.length + j) o = getCellL L j o := by unfold getCellL getCell; rw [row_j]; rfl
theorem cells_0 {L : Mem} {o n : Nat} : getCells (M ++ L) M.length o n = getCellsL L 0 o n := by unfold getCellsL getCells; rw [row_0]; rfl
theorem cells_j {L : Mem} {j o n : Nat} : getCells (M ++ L) (M.length + j) o n = getCellsL L j o n := by unfold getCellsL getCells; rw [row_j]; rfl
theorem setC_0 {L : Mem} {o : Nat} {vs : List LV} : setCells (M ++ L) M.length o vs = (setCellsL L 0 o vs).map (M ++ ·) := by
  unfold setCellsL setCells; rw [at_0]
  split
  · split
    · simp only [Option.map_some, set_0]
    · rfl
  · rfl
theorem setC_j {L : Mem} {j o : Nat} {vs : List LV} : setCells (M ++ L) (M.length + j) o vs = (setCellsL L j o vs).map (M ++ ·) := by
  unfold setCellsL setCells; rw [at_j]
  split
  · split
    · simp only [Option.map_some, set_j]
    · rfl
  · rfl
theorem rowL_z {cs : List LV} {w : Bool} {e : Nat} {L : Mem} : getRowL (some (.row cs w e) :: L) 0 = some cs := (rfl)
theorem rowL_s {x : Option Blk} {L : Mem} {j : Nat} : getRowL (x :: L) (j + 1) = getRowL L j := (rfl)
theorem eszL_z {cs : List LV} {w : Bool} {e : Nat} {L : Mem} : getEszL (some (.row cs w e) :: L) 0 = some e := (rfl)
theorem eszL_s {x : Option Blk} {L : Mem} {j : Nat} : getEszL (x :: L) (j + 1) = getEszL L j := (rfl)
theorem cellL_z {cs : List LV} {w : Bool} {e o : Nat} {L : Mem} : getCellL (some (.row cs w e) :: L) 0 o = cs[o]? := (rfl)
theorem cellL_s {x : Option Blk} {L : Mem} {j o : Nat} : getCellL (x :: L) (j + 1) o = getCellL L j o := (rfl)
theorem cellsL_z {cs : List LV} {w : Bool} {e o n : Nat} {L : Mem} : getCellsL (some (.row cs w e) :: L) 0 o n = if o + n ≤ cs.length then some ((cs.drop o).take n) else none := (rfl)
theorem cellsL_s {x : Option Blk} {L : Mem} {j o n : Nat} : getCellsL (x :: L) (j + 1) o n = getCellsL L j o n := (rfl)
theorem setL_z {cs vs : List LV} {e o : Nat} {L : Mem} : setCellsL (some (.row cs true e) :: L) 0 o vs = if o + vs.length ≤ cs.length then some (some (.row (splice cs o vs) true e) :: L) else none := (rfl)
theorem setL_s {x : Option Blk} {L : Mem} {j o : Nat} {vs : List LV} : setCellsL (x :: L) (j + 1) o vs = (setCellsL L j o vs).map (x :: ·) := by
  unfold setCellsL setCells
  simp only [List.getElem?_cons_succ, List.set_cons_succ]
  cases hL : L[j]? with
  | none => rfl
  | some o' => cases o' with
    | none => rfl
    | some b => cases b with
      | map => rfl
      | row cs w e => cases w with
        | false => rfl
        | true => simp only; split <;> rfl
theorem spl_10 {a x : LV} : splice [a] 0 [x] = [x] := (rfl)
theorem spl_20 {a b x : LV} : splice [a, b] 0 [x] = [x, b] := (rfl)
theorem spl_21 {a b x : LV} : splice [a, b] 1 [x] = [a, x] := (rfl)
theorem spl_30 {a b c x : LV} : splice [a, b, c] 0 [x] = [x, b, c] := (rfl)
theorem spl_31 {a b c x : LV} : splice [a, b, c] 1 [x] = [a, x, c] := (rfl)
theorem spl_32 {a b c x : LV} : splice [a, b, c] 2 [x] = [a, b, x] := (rfl)
theorem spl_40 {a b c d x : LV} : splice [a, b, c, d] 0 [x] = [x, b, c, d] := (rfl)
theorem spl_41 {a b c d x : LV} : splice [a, b, c, d] 1 [x] = [a, x, c, d] := (rfl)
theorem spl_42 {a b c d x : LV} : splice [a, b, c, d] 2 [x] = [a, b, x, d] := (rfl)
theorem spl_43 {a b c d x : LV} : splice [a, b, c, d] 3 [x] = [a, b, c, x] := (rfl)
theorem spl_3r {a b c x y z : LV} : splice [a, b, c] 0 [x, y, z] = [x, y, z] := (rfl)
theorem spl_4r {a b c d x y z u : LV} : splice [a, b, c, d] 0 [x, y, z, u] = [x, y, z, u] := (rfl)
theorem spl_2r {a b x y : LV} : splice [a, b] 0 [x, y] = [x, y] := (rfl)
theorem spl_5r {a0 a1 a2 a3 a4 x0 x1 x2 x3 x4 : LV} : splice [a0, a1, a2, a3, a4] 0 [x0, x1, x2, x3, x4] = [x0, x1, x2, x3, x4] := (rfl)
theorem spl_50 {a0 a1 a2 a3 a4 x : LV} : splice [a0, a1, a2, a3, a4] 0 [x] = [x, a1, a2, a3, a4] := (rfl)
theorem spl_51 {a0 a1 a2 a3 a4 x : LV} : splice [a0, a1, a2, a3, a4] 1 [x] = [a0, x, a2, a3, a4] := (rfl)
theorem spl_52 {a0 a1 a2 a3 a4 x : LV} : splice [a0, a1, a2, a3, a4] 2 [x] = [a0, a1, x, a3, a4] := (rfl)
theorem spl_53 {a0 a1 a2 a3 a4 x : LV} : splice [a0, a1, a2, a3, a4] 3 [x] = [a0, a1, a2, x, a4] := (rfl)
theorem spl_54 {a0 a1 a2 a3 a4 x : LV} : splice [a0, a1, a2, a3, a4] 4 [x] = [a0, a1, a2, a3, x] := (rfl)
theorem spl_6r {a0 a1 a2 a3 a4 a5 x0 x1 x2 x3 x4 x5 : LV} : splice [a0, a1, a2, a3, a4, a5] 0 [x0, x1, x2, x3, x4, x5] = [x0, x1, x2, x3, x4, x5] := (rfl)
theorem spl_60 {a0 a1 a2 a3 a4 a5 x : LV} : splice [a0, a1, a2, a3, a4, a5] 0 [x] = [x, a1, a2, a3, a4, a5] := (rfl)
theorem spl_61 {a0 a1 a2 a3 a4 a5 x : LV} : splice [a0, a1, a2, a3, a4, a5] 1 [x] = [a0, x, a2, a3, a4, a5] := (rfl)
theorem spl_62 {a0 a1 a2 a3 a4 a5 x : LV} : splice [a0, a1, a2, a3, a4, a5] 2 [x] = [a0, a1, x, a3, a4, a5] := (rfl)
theorem spl_63 {a0 a1 a2 a3 a4 a5 x : LV} : splice [a0, a1, a2, a3, a4, a5] 3 [x] = [a0, a1, a2, x, a4, a5] := (rfl)
theorem spl_64 {a0 a1 a2 a3 a4 a5 x : LV} : splice [a0, a1, a2, a3, a4, a5] 4 [x] = [a0, a1, a2, a3, x, a5] := (rfl)
theorem spl_65 {a0 a1 a2 a3 a4 a5 x : LV} : splice [a0, a1, a2, a3, a4, a5] 5 [x] = [a0, a1, a2, a3, a4, x] := (rfl)
theorem spl_7r {a0 a1 a2 a3 a4 a5 a6 x0 x1 x2 x3 x4 x5 x6 : LV} : splice [a0, a1, a2, a3, a4, a5, a6] 0 [x0, x1, x2, x3, x4, x5, x6] = [x0, x1, x2, x3, x4, x5, x6] := (rfl)
theorem spl_70 {a0 a1 a2 a3 a4 a5 a6 x : LV} : splice [a0, a1, a2, a3, a4, a5, a6] 0 [x] = [x, a1, a2, a3, a4, a5, a6] := (rfl)
theorem spl_71 {a0 a1 a2 a3 a4 a5 a6 x : LV} : splice [a0, a1, a2, a3, a4, a5, a6] 1 [x] = [a0, x, a2, a3, a4, a5, a6] := (rfl)
theorem spl_72 {a0 a1 a2 a3 a4 a5 a6 x : LV} : splice [a0, a1, a2, a3, a4, a5, a6] 2 [x] = [a0, a1, x, a3, a4, a5, a6] := (rfl)
theorem spl_73 {a0 a1 a2 a3 a4 a5 a6 x : LV} : splice [a0, a1, a2, a3, a4, a5, a6] 3 [x] = [a0, a1, a2, x, a4, a5, a6] := (rfl)
theorem spl_74 {a0 a1 a2 a3 a4 a5 a6 x : LV} : splice [a0, a1, a2, a3, a4, a5, a6] 4 [x] = [a0, a1, a2, a3, x, a5, a6] := (rfl)
theorem spl_75 {a0 a1 a2 a3 a4 a5 a6 x : LV} : splice [a0, a1, a2, a3, a4, a5, a6] 5 [x] = [a0, a1, a2, a3, a4, x, a6] := (rfl)
theorem spl_76 {a0 a1 a2 a3 a4 a5 a6 x : LV} : splice [a0, a1, a2, a3, a4, a5, a6] 6 [x] = [a0, a1, a2, a3, a4, a5, x] := (rfl)
theorem spl_8r {a0 a1 a2 a3 a4 a5 a6 a7 x0 x1 x2 x3 x4 x5 x6 x7 : LV} : splice [a0, a1, a2, a3, a4, a5, a6, a7] 0 [x0, x1, x2, x3, x4, x5, x6, x7] = [x0, x1, x2, x3, x4, x5, x6, x7] := (rfl)
theorem spl_80 {a0 a1 a2 a3 a4 a5 a6 a7 x : LV} : splice [a0, a1, a2, a3, a4, a5, a6, a7] 0 [x] = [x, a1, a2, a3, a4, a5, a6, a7] := (rfl)
theorem spl_81 {a0 a1 a2 a3 a4 a5 a6 a7 x : LV} : splice [a0, a1, a2, a3, a4, a5, a6, a7] 1 [x] = [a0, x, a2, a3, a4, a5, a6, a7] := (rfl)
theorem spl_82 {a0 a1 a2 a3 a4 a5 a6 a7 x : LV} : splice [a0, a1, a2, a3, a4, a5, a6, a7] 2 [x] = [a0, a1, x, a3, a4, a5, a6, a7] := (rfl)
theorem spl_83 {a0 a1 a2 a3 a4 a5 a6 a7 x : LV} : splice [a0, a1, a2, a3, a4, a5, a6, a7] 3 [x] = [a0, a1, a2, x, a4, a5, a6, a7] := (rfl)
theorem spl_84 {a0 a1 a2 a3 a4 a5 a6 a7 x : LV} : splice [a0, a1, a2, a3, a4, a5, a6, a7] 4 [x] = [a0, a1, a2, a3, x, a5, a6, a7] := (rfl)
theorem spl_85 {a0 a1 a2 a3 a4 a5 a6 a7 x : LV} : splice [a0, a1, a2, a3, a4, a5, a6, a7] 5 [x] = [a0, a1, a2, a3, a4, x, a6, a7] := (rfl)
theorem spl_86 {a0 a1 a2 a3 a4 a5 a6 a7 x : LV} : splice [a0, a1, a2, a3, a4, a5, a6, a7] 6 [x] = [a0, a1, a2, a3, a4, a5, x, a7] := (rfl)
theorem spl_87 {a0 a1 a2 a3 a4 a5 a6 a7 x : LV} : splice [a0, a1, a2, a3, a4, a5, a6, a7] 7 [x] = [a0, a1, a2, a3, a4, a5, a6, x] := (rfl)
theorem splice_1 {cs : List LV} {o : Nat} {v : LV} (h : o < cs.length) : splice cs o [v] = cs.set o v := by
  unfold splice
  rw [List.set_eq_take_append_cons_drop, if_pos h]; simp
end
end Go.Ab

namespace Go.Ab
open Go
section
variable {P : Program} {fr : Fr} {M : Mem} {K : Fr → Mem → Prop}
theorem ev_mv (d : Nat) (x : Opd) : EvOp P (.mv d x) fr M K = sopK (some (d, x.ev fr, True)) fr M K := ev_sop rfl
theorem ev_pick (d : Nat) (c a b : Opd) : EvOp P (.pick d c a b) fr M K = sopK (match c.ev fr with | .val (.bool t) => some (d, (if t then a.ev fr else b.ev fr), True) | _ => none) fr M K := ev_sop rfl
theorem ev_bin (d : Nat) (op : BinOp) (x y : Opd) : EvOp P (.bin d op x y) fr M K = sopK ((binV op (x.ev fr) (y.ev fr)).map fun (v, c) => (d, v, c)) fr M K := ev_sop rfl
theorem ev_eqs (d : Nat) (ng : Bool) (n : Nat) (x y : Opd) : EvOp P (.eqs d ng n x y) fr M K = sopK ((eqV ng n (x.ev fr) (y.ev fr)).map fun v => (d, v, True)) fr M K := ev_sop rfl
theorem ev_eqb (d : Nat) (ng : Bool) (x y : Opd) : EvOp P (.eqb d ng x y) fr M K = sopK ((eqoV ng x y fr).map fun v => (d, v, True)) fr M K := ev_sop rfl
theorem ev_un (d : Nat) (op : UnOp) (x : Opd) : EvOp P (.un d op x) fr M K = sopK ((unV op (x.ev fr)).map fun v => (d, v, True)) fr M K := ev_sop rfl
theorem ev_conv (d : Nat) (k : IntKind) (x : Opd) : EvOp P (.conv d k x) fr M K = sopK (match x.ev fr with | .val (.int _ n) => some (d, .val (.int k (k.wrap n)), True) | _ => none) fr M K := ev_sop rfl
theorem ev_build (d : Nat) (z : List LV) (ps : List (Nat × Nat × Opd)) : EvOp P (.build d z ps) fr M K = sopK ((fillC z (ps.map fun (o, n, x) => (o, n, x.ev fr))).map fun cs => (d, .agg cs, True)) fr M K := ev_sop rfl
theorem ev_load1 (d : Nat) (x : Opd) : EvOp P (.load1 d x) fr M K = sopK (match x.ev fr with | .ptr t off => (getCell M t off).map fun v => (d, v, True) | _ => none) fr M K := ev_sop rfl
theorem ev_loadN (d n : Nat) (x : Opd) : EvOp P (.loadN d n x) fr M K = sopK (match x.ev fr with | .ptr t off => (getCells M t off n).map fun cs => (d, .agg cs, True) | _ => none) fr M K := ev_sop rfl
theorem ev_nilck (d : Nat) (x : Opd) : EvOp P (.nilck d x) fr M K = sopK (match x.ev fr with | .ptr t off => some (d, .ptr t off, True) | _ => none) fr M K := ev_sop rfl
theorem ev_mkf (d : Nat) (f : FuncId) (cs : List Opd) : EvOp P (.mkf d f cs) fr M K = sopK ((capOf cs fr).map fun cs => (d, .clo f cs, True)) fr M K := ev_sop rfl
theorem ev_slS (d e : Nat) (x : Opd) (lo hi : Option Opd) : EvOp P (.slS d e x lo hi) fr M K = sopK (sop (.slS d e x lo hi) fr M) fr M K := ev_sop rfl
theorem ev_slA (d n e : Nat) (x : Opd) (lo hi : Option Opd) : EvOp P (.slA d n e x lo hi) fr M K = sopK (sop (.slA d n e x lo hi) fr M) fr M K := ev_sop rfl
theorem ev_slT (d : Nat) (x : Opd) (lo hi : Option Opd) : EvOp P (.slT d x lo hi) fr M K = sopK (sop (.slT d x lo hi) fr M) fr M K := ev_sop rfl
theorem ev_fieldAddr (d : Nat) (x : Opd) (o : Nat) : EvOp P (.fieldAddr d x o) fr M K = sopK (match x.ev fr with | .ptr t o2 => some (d, .ptr t (o2 + o), True) | _ => none) fr M K := ev_sop rfl
theorem ev_field (d : Nat) (x : Opd) (o : Nat) (n : Option Nat) : EvOp P (.field d x o n) fr M K = sopK (match x.ev fr with
    | .agg cs => match n with
      | none => (cs[o]?).map fun v => (d, v, True)
      | some n => if o + n ≤ cs.length then some (d, .agg ((cs.drop o).take n), True) else none
    | _ => none) fr M K := ev_sop rfl
theorem ev_idxS (d e : Nat) (x i : Opd) : EvOp P (.idxS d e x i) fr M K = sopK (match x.ev fr, intV (i.ev fr) with
    | .ref t off n, some i => some (d, .ptr t (off + i.toNat * e), 0 ≤ i ∧ i < n)
    | _, _ => none) fr M K := ev_sop rfl
theorem ev_idxA (d n e : Nat) (x i : Opd) : EvOp P (.idxA d n e x i) fr M K = sopK (match x.ev fr, intV (i.ev fr) with
    | .ptr t off, some i => some (d, .ptr t (off + i.toNat * e), 0 ≤ i ∧ i < n)
    | _, _ => none) fr M K := ev_sop rfl
theorem ev_index (d n e : Nat) (ag : Bool) (x i : Opd) : EvOp P (.index d n e ag x i) fr M K = sopK (match x.ev fr, intV (i.ev fr) with
    | .agg cs, some i => if ag then some (d, .agg ((cs.drop (i.toNat * e)).take e), 0 ≤ i ∧ i < n ∧ i.toNat * e + e ≤ cs.length)
      else match cs[i.toNat * e]? with
        | some v => some (d, v, 0 ≤ i ∧ i < n)
        | none => none
    | _, _ => none) fr M K := ev_sop rfl
theorem ev_idxT (d : Nat) (x i : Opd) : EvOp P (.idxT d x i) fr M K = sopK (match x.ev fr, intV (i.ev fr) with
    | .val (.string s), some i => some (d, .val (.int .u8 ((s.data.toList.getD i.toNat 0).toNat : Int)), 0 ≤ i ∧ i < s.size)
    | _, _ => none) fr M K := ev_sop rfl
theorem ev_lookup (d n : Nat) (m k : Opd) (z : Value) (ok : Bool) : EvOp P (.lookup d n m k z ok) fr M K = sopK ((lookM n (m.ev fr) (k.ev fr) M).map fun r => (d, (if ok then .tup [r.getD (.val z), .B r.isSome] else r.getD (.val z)), True)) fr M K := ev_sop rfl
theorem ev_mupd (n : Nat) (m k v : Opd) : EvOp P (.mupd n m k v) fr M K = memK (putM n (m.ev fr) (k.ev fr) (v.ev fr) M) (K fr) := by
  simp only [EvOp]; unfold memK; rfl
theorem ev_extract (d : Nat) (x : Opd) (i : Nat) : EvOp P (.extract d x i) fr M K = sopK (match x.ev fr with | .tup vs => (vs[i]?).map fun v => (d, v, True) | _ => none) fr M K := ev_sop rfl
theorem ev_len (d : Nat) (x : Opd) : EvOp P (.len d x) fr M K = sopK ((lenV (x.ev fr)).map fun n => (d, .I n, True)) fr M K := ev_sop rfl
theorem ev_lenT (d : Nat) (x : Opd) : EvOp P (.lenT d x) fr M K = sopK ((lenTV (x.ev fr)).map fun n => (d, .I n, True)) fr M K := ev_sop rfl
theorem ev_mm (d : Nat) (mx : Bool) (xs : List Opd) : EvOp P (.mm d mx xs) fr M K = sopK ((maxV mx (xs.map (·.ev fr))).map fun v => (d, v, True)) fr M K := ev_sop rfl
theorem ev_any (d : Nat) : EvOp P (.any d) fr M K = sopK (some (d, .junk, True)) fr M K := ev_sop rfl
theorem ev_box (d : Nat) (x : Opd) : EvOp P (.box d x) fr M K = aopK ((x.ev fr).cells.map fun cs => (d, (.ptr · 0), .row cs true 0, True)) fr M K := ev_aop rfl
theorem ev_alloc (d : Nat) (z : List LV) : EvOp P (.alloc d z) fr M K = aopK (some (d, (.ptr · 0), .row z true 0, True)) fr M K := ev_aop rfl
theorem ev_buildSl (d n e : Nat) (z : List LV) (ps : List (Nat × Nat × Opd)) : EvOp P (.buildSl d n e z ps) fr M K = aopK ((fillC z (ps.map fun (o, n, x) => (o, n, x.ev fr))).map fun cs => (d, (.ref · 0 n), .row cs true e, True)) fr M K := ev_aop rfl
theorem ev_mksl (d e b : Nat) (z : List LV) (l c : Opd) : EvOp P (.mksl d e b z l c) fr M K = aopK (match intV (l.ev fr), intV (c.ev fr) with
    | some l, some c => some (d, (.ref · 0 l.toNat), .row (List.replicate l.toNat z).flatten true e, 0 ≤ l ∧ c = l ∧ (b : Int) * l ≤ 281474976710656 ∧ l ≤ 9223372036854775807)
    | _, _ => none) fr M K := ev_aop rfl
theorem ev_mkmap (d : Nat) : EvOp P (.mkmap d) fr M K = aopK (some (d, .mp, .map [], True)) fr M K := ev_aop rfl
theorem ev_sl0 (d e : Nat) (x : Opd) : EvOp P (.sl0 d e x) fr M K = aopK (match x.ev fr with
    | .ref _ _ _ | .val (.slice none 0 0) => some (d, (.ref · 0 0), .row [] true e, True)
    | _ => none) fr M K := ev_aop rfl
theorem evd_mv (d : Nat) (x : Opd) {gd : Option (Nat × Bool)} {msk unl : List Nat} {r : List DOp} {lg : List (Option Nat)} : EvD P (⟨(gd, .mv d x), msk, unl⟩ :: r) fr M lg K = EvG P (gd, .mv d x) fr M (evdK P r (lg ++ [none]) K) := evd_0 rfl
theorem evd_pick (d : Nat) (c a b : Opd) {gd : Option (Nat × Bool)} {msk unl : List Nat} {r : List DOp} {lg : List (Option Nat)} : EvD P (⟨(gd, .pick d c a b), msk, unl⟩ :: r) fr M lg K = EvG P (gd, .pick d c a b) fr M (evdK P r (lg ++ [none]) K) := evd_0 rfl
theorem evd_bin (d : Nat) (op : BinOp) (x y : Opd) {gd : Option (Nat × Bool)} {msk unl : List Nat} {r : List DOp} {lg : List (Option Nat)} : EvD P (⟨(gd, .bin d op x y), msk, unl⟩ :: r) fr M lg K = EvG P (gd, .bin d op x y) fr M (evdK P r (lg ++ [none]) K) := evd_0 rfl
theorem evd_eqs (d : Nat) (ng : Bool) (n : Nat) (x y : Opd) {gd : Option (Nat × Bool)} {msk unl : List Nat} {r : List DOp} {lg : List (Option Nat)} : EvD P (⟨(gd, .eqs d ng n x y), msk, unl⟩ :: r) fr M lg K = EvG P (gd, .eqs d ng n x y) fr M (evdK P r (lg ++ [none]) K) := evd_0 rfl
theorem evd_eqb (d : Nat) (ng : Bool) (x y : Opd) {gd : Option (Nat × Bool)} {msk unl : List Nat} {r : List DOp} {lg : List (Option Nat)} : EvD P (⟨(gd, .eqb d ng x y), msk, unl⟩ :: r) fr M lg K = EvG P (gd, .eqb d ng x y) fr M (evdK P r (lg ++ [none]) K) := evd_0 rfl
theorem evd_un (d : Nat) (op : UnOp) (x : Opd) {gd : Option (Nat × Bool)} {msk unl : List Nat} {r : List DOp} {lg : List (Option Nat)} : EvD P (⟨(gd, .un d op x), msk, unl⟩ :: r) fr M lg K = EvG P (gd, .un d op x) fr M (evdK P r (lg ++ [none]) K) := evd_0 rfl
theorem evd_conv (d : Nat) (k : IntKind) (x : Opd) {gd : Option (Nat × Bool)} {msk unl : List Nat} {r : List DOp} {lg : List (Option Nat)} : EvD P (⟨(gd, .conv d k x), msk, unl⟩ :: r) fr M lg K = EvG P (gd, .conv d k x) fr M (evdK P r (lg ++ [none]) K) := evd_0 rfl
theorem evd_build (d : Nat) (z : List LV) (ps : List (Nat × Nat × Opd)) {gd : Option (Nat × Bool)} {msk unl : List Nat} {r : List DOp} {lg : List (Option Nat)} : EvD P (⟨(gd, .build d z ps), msk, unl⟩ :: r) fr M lg K = EvG P (gd, .build d z ps) fr M (evdK P r (lg ++ [none]) K) := evd_0 rfl
theorem evd_load1 (d : Nat) (x : Opd) {gd : Option (Nat × Bool)} {msk unl : List Nat} {r : List DOp} {lg : List (Option Nat)} : EvD P (⟨(gd, .load1 d x), msk, unl⟩ :: r) fr M lg K = EvG P (gd, .load1 d x) fr M (evdK P r (lg ++ [keyOf (.load1 d x) fr]) K) := evd_0 rfl
theorem evd_loadN (d n : Nat) (x : Opd) {gd : Option (Nat × Bool)} {msk unl : List Nat} {r : List DOp} {lg : List (Option Nat)} : EvD P (⟨(gd, .loadN d n x), msk, unl⟩ :: r) fr M lg K = EvG P (gd, .loadN d n x) fr M (evdK P r (lg ++ [keyOf (.loadN d n x) fr]) K) := evd_0 rfl
theorem evd_nilck (d : Nat) (x : Opd) {gd : Option (Nat × Bool)} {msk unl : List Nat} {r : List DOp} {lg : List (Option Nat)} : EvD P (⟨(gd, .nilck d x), msk, unl⟩ :: r) fr M lg K = EvG P (gd, .nilck d x) fr M (evdK P r (lg ++ [none]) K) := evd_0 rfl
theorem evd_mkf (d : Nat) (f : FuncId) (cs : List Opd) {gd : Option (Nat × Bool)} {msk unl : List Nat} {r : List DOp} {lg : List (Option Nat)} : EvD P (⟨(gd, .mkf d f cs), msk, unl⟩ :: r) fr M lg K = EvG P (gd, .mkf d f cs) fr M (evdK P r (lg ++ [none]) K) := evd_0 rfl
theorem evd_slS (d e : Nat) (x : Opd) (lo hi : Option Opd) {gd : Option (Nat × Bool)} {msk unl : List Nat} {r : List DOp} {lg : List (Option Nat)} : EvD P (⟨(gd, .slS d e x lo hi), msk, unl⟩ :: r) fr M lg K = EvG P (gd, .slS d e x lo hi) fr M (evdK P r (lg ++ [keyOf (.slS d e x lo hi) fr]) K) := evd_0 rfl
theorem evd_slA (d n e : Nat) (x : Opd) (lo hi : Option Opd) {gd : Option (Nat × Bool)} {msk unl : List Nat} {r : List DOp} {lg : List (Option Nat)} : EvD P (⟨(gd, .slA d n e x lo hi), msk, unl⟩ :: r) fr M lg K = EvG P (gd, .slA d n e x lo hi) fr M (evdK P r (lg ++ [keyOf (.slA d n e x lo hi) fr]) K) := evd_0 rfl
theorem evd_slT (d : Nat) (x : Opd) (lo hi : Option Opd) {gd : Option (Nat × Bool)} {msk unl : List Nat} {r : List DOp} {lg : List (Option Nat)} : EvD P (⟨(gd, .slT d x lo hi), msk, unl⟩ :: r) fr M lg K = EvG P (gd, .slT d x lo hi) fr M (evdK P r (lg ++ [none]) K) := evd_0 rfl
theorem evd_fieldAddr (d : Nat) (x : Opd) (o : Nat) {gd : Option (Nat × Bool)} {msk unl : List Nat} {r : List DOp} {lg : List (Option Nat)} : EvD P (⟨(gd, .fieldAddr d x o), msk, unl⟩ :: r) fr M lg K = EvG P (gd, .fieldAddr d x o) fr M (evdK P r (lg ++ [none]) K) := evd_0 rfl
theorem evd_field (d : Nat) (x : Opd) (o : Nat) (n : Option Nat) {gd : Option (Nat × Bool)} {msk unl : List Nat} {r : List DOp} {lg : List (Option Nat)} : EvD P (⟨(gd, .field d x o n), msk, unl⟩ :: r) fr M lg K = EvG P (gd, .field d x o n) fr M (evdK P r (lg ++ [none]) K) := evd_0 rfl
theorem evd_idxS (d e : Nat) (x i : Opd) {gd : Option (Nat × Bool)} {msk unl : List Nat} {r : List DOp} {lg : List (Option Nat)} : EvD P (⟨(gd, .idxS d e x i), msk, unl⟩ :: r) fr M lg K = EvG P (gd, .idxS d e x i) fr M (evdK P r (lg ++ [none]) K) := evd_0 rfl
theorem evd_idxA (d n e : Nat) (x i : Opd) {gd : Option (Nat × Bool)} {msk unl : List Nat} {r : List DOp} {lg : List (Option Nat)} : EvD P (⟨(gd, .idxA d n e x i), msk, unl⟩ :: r) fr M lg K = EvG P (gd, .idxA d n e x i) fr M (evdK P r (lg ++ [none]) K) := evd_0 rfl
theorem evd_index (d n e : Nat) (ag : Bool) (x i : Opd) {gd : Option (Nat × Bool)} {msk unl : List Nat} {r : List DOp} {lg : List (Option Nat)} : EvD P (⟨(gd, .index d n e ag x i), msk, unl⟩ :: r) fr M lg K = EvG P (gd, .index d n e ag x i) fr M (evdK P r (lg ++ [none]) K) := evd_0 rfl
theorem evd_idxT (d : Nat) (x i : Opd) {gd : Option (Nat × Bool)} {msk unl : List Nat} {r : List DOp} {lg : List (Option Nat)} : EvD P (⟨(gd, .idxT d x i), msk, unl⟩ :: r) fr M lg K = EvG P (gd, .idxT d x i) fr M (evdK P r (lg ++ [none]) K) := evd_0 rfl
theorem evd_lookup (d n : Nat) (m k : Opd) (z : Value) (ok : Bool) {gd : Option (Nat × Bool)} {msk unl : List Nat} {r : List DOp} {lg : List (Option Nat)} : EvD P (⟨(gd, .lookup d n m k z ok), msk, unl⟩ :: r) fr M lg K = EvG P (gd, .lookup d n m k z ok) fr M (evdK P r (lg ++ [keyOf (.lookup d n m k z ok) fr]) K) := evd_0 rfl
theorem evd_extract (d : Nat) (x : Opd) (i : Nat) {gd : Option (Nat × Bool)} {msk unl : List Nat} {r : List DOp} {lg : List (Option Nat)} : EvD P (⟨(gd, .extract d x i), msk, unl⟩ :: r) fr M lg K = EvG P (gd, .extract d x i) fr M (evdK P r (lg ++ [none]) K) := evd_0 rfl
theorem evd_len (d : Nat) (x : Opd) {gd : Option (Nat × Bool)} {msk unl : List Nat} {r : List DOp} {lg : List (Option Nat)} : EvD P (⟨(gd, .len d x), msk, unl⟩ :: r) fr M lg K = EvG P (gd, .len d x) fr M (evdK P r (lg ++ [none]) K) := evd_0 rfl
theorem evd_lenT (d : Nat) (x : Opd) {gd : Option (Nat × Bool)} {msk unl : List Nat} {r : List DOp} {lg : List (Option Nat)} : EvD P (⟨(gd, .lenT d x), msk, unl⟩ :: r) fr M lg K = EvG P (gd, .lenT d x) fr M (evdK P r (lg ++ [none]) K) := evd_0 rfl
theorem evd_mm (d : Nat) (mx : Bool) (xs : List Opd) {gd : Option (Nat × Bool)} {msk unl : List Nat} {r : List DOp} {lg : List (Option Nat)} : EvD P (⟨(gd, .mm d mx xs), msk, unl⟩ :: r) fr M lg K = EvG P (gd, .mm d mx xs) fr M (evdK P r (lg ++ [none]) K) := evd_0 rfl
theorem evd_any (d : Nat) {gd : Option (Nat × Bool)} {msk unl : List Nat} {r : List DOp} {lg : List (Option Nat)} : EvD P (⟨(gd, .any d), msk, unl⟩ :: r) fr M lg K = EvG P (gd, .any d) fr M (evdK P r (lg ++ [none]) K) := evd_0 rfl
theorem evd_box (d : Nat) (x : Opd) {gd : Option (Nat × Bool)} {msk unl : List Nat} {r : List DOp} {lg : List (Option Nat)} : EvD P (⟨(gd, .box d x), msk, unl⟩ :: r) fr M lg K = EvG P (gd, .box d x) fr M (evd1K P r lg M.length K) := evd_1 rfl
theorem evd_alloc (d : Nat) (z : List LV) {gd : Option (Nat × Bool)} {msk unl : List Nat} {r : List DOp} {lg : List (Option Nat)} : EvD P (⟨(gd, .alloc d z), msk, unl⟩ :: r) fr M lg K = EvG P (gd, .alloc d z) fr M (evd1K P r lg M.length K) := evd_1 rfl
theorem evd_buildSl (d n e : Nat) (z : List LV) (ps : List (Nat × Nat × Opd)) {gd : Option (Nat × Bool)} {msk unl : List Nat} {r : List DOp} {lg : List (Option Nat)} : EvD P (⟨(gd, .buildSl d n e z ps), msk, unl⟩ :: r) fr M lg K = EvG P (gd, .buildSl d n e z ps) fr M (evd1K P r lg M.length K) := evd_1 rfl
theorem evd_mksl (d e b : Nat) (z : List LV) (l c : Opd) {gd : Option (Nat × Bool)} {msk unl : List Nat} {r : List DOp} {lg : List (Option Nat)} : EvD P (⟨(gd, .mksl d e b z l c), msk, unl⟩ :: r) fr M lg K = EvG P (gd, .mksl d e b z l c) fr M (evd1K P r lg M.length K) := evd_1 rfl
theorem evd_mkmap (d : Nat) {gd : Option (Nat × Bool)} {msk unl : List Nat} {r : List DOp} {lg : List (Option Nat)} : EvD P (⟨(gd, .mkmap d), msk, unl⟩ :: r) fr M lg K = EvG P (gd, .mkmap d) fr M (evd1K P r lg M.length K) := evd_1 rfl
theorem evd_sl0 (d e : Nat) (x : Opd) {gd : Option (Nat × Bool)} {msk unl : List Nat} {r : List DOp} {lg : List (Option Nat)} : EvD P (⟨(gd, .sl0 d e x), msk, unl⟩ :: r) fr M lg K = EvG P (gd, .sl0 d e x) fr M (evd1K P r lg M.length K) := evd_1 rfl
theorem evd_store (n : Nat) (a x : Opd) {gd : Option (Nat × Bool)} {msk unl : List Nat} {r : List DOp} {lg : List (Option Nat)} : EvD P (⟨(gd, .store n a x), msk, unl⟩ :: r) fr M lg K = EvG P (gd, .store n a x) fr (maskM (selL msk lg) M) (evd2K P r lg M (selL msk lg) (selL unl lg) K) := evd_2 rfl
theorem evd_append (d e b : Nat) (s x : Opd) {gd : Option (Nat × Bool)} {msk unl : List Nat} {r : List DOp} {lg : List (Option Nat)} : EvD P (⟨(gd, .append d e b s x), msk, unl⟩ :: r) fr M lg K = EvG P (gd, .append d e b s x) fr (maskM (selL msk lg) M) (evd2K P r lg M (selL msk lg) (selL unl lg) K) := evd_2 rfl
theorem evd_copy (d e : Nat) (s x : Opd) {gd : Option (Nat × Bool)} {msk unl : List Nat} {r : List DOp} {lg : List (Option Nat)} : EvD P (⟨(gd, .copy d e s x), msk, unl⟩ :: r) fr M lg K = EvG P (gd, .copy d e s x) fr (maskM (selL msk lg) M) (evd2K P r lg M (selL msk lg) (selL unl lg) K) := evd_2 rfl
theorem evd_clear (d : Option Nat) (e : Nat) (z : List LV) (x : Opd) {gd : Option (Nat × Bool)} {msk unl : List Nat} {r : List DOp} {lg : List (Option Nat)} : EvD P (⟨(gd, .clear d e z x), msk, unl⟩ :: r) fr M lg K = EvG P (gd, .clear d e z x) fr (maskM (selL msk lg) M) (evd2K P r lg M (selL msk lg) (selL unl lg) K) := evd_2 rfl
theorem evd_mupd (n : Nat) (m k v : Opd) {gd : Option (Nat × Bool)} {msk unl : List Nat} {r : List DOp} {lg : List (Option Nat)} : EvD P (⟨(gd, .mupd n m k v), msk, unl⟩ :: r) fr M lg K = EvG P (gd, .mupd n m k v) fr (maskM (selL msk lg) M) (evd2K P r lg M (selL msk lg) (selL unl lg) K) := evd_2 rfl
theorem evd_call (d : Option Nat) (f : FuncId) (xs : List Opd) {gd : Option (Nat × Bool)} {msk unl : List Nat} {r : List DOp} {lg : List (Option Nat)} : EvD P (⟨(gd, .call d f xs), msk, unl⟩ :: r) fr M lg K = EvG P (gd, .call d f xs) fr (maskM (selL msk lg) M) (evd2K P r lg M (selL msk lg) (selL unl lg) K) := evd_2 rfl
theorem evd_callV (d : Option Nat) (x : Opd) (xs : List Opd) {gd : Option (Nat × Bool)} {msk unl : List Nat} {r : List DOp} {lg : List (Option Nat)} : EvD P (⟨(gd, .callV d x xs), msk, unl⟩ :: r) fr M lg K = EvG P (gd, .callV d x xs) fr (maskM (selL msk lg) M) (evd2K P r lg M (selL msk lg) (selL unl lg) K) := evd_2 rfl
end
end Go.Ab

namespace Go.Ab
open Go

section
variable {k : IntKind} {a b : Int} {t : Bool}
theorem bv_add : binV .add (.val (.int k a)) (.val (.int k b)) = some (.val (.int k (k.wrap (a + b))), True) := by simp [binV, binInt]
theorem bv_sub : binV .sub (.val (.int k a)) (.val (.int k b)) = some (.val (.int k (k.wrap (a - b))), True) := by simp [binV, binInt]
theorem bv_mul : binV .mul (.val (.int k a)) (.val (.int k b)) = some (.val (.int k (k.wrap (a * b))), True) := by simp [binV, binInt]
theorem bv_quo : binV .quo (.val (.int k a)) (.val (.int k b)) = some (.val (.int k (k.wrap (a.tdiv b))), b ≠ 0) := by simp [binV, binInt]
theorem bv_rem : binV .rem (.val (.int k a)) (.val (.int k b)) = some (.val (.int k (a.tmod b)), b ≠ 0) := by simp [binV, binInt]
theorem bv_eql : binV .eql (.val (.int k a)) (.val (.int k b)) = some (.val (.bool (decide (a = b))), True) := by
  have : (a == b) = decide (a = b) := (rfl)
  simp [binV, binInt, this]
theorem bv_neq : binV .neq (.val (.int k a)) (.val (.int k b)) = some (.val (.bool (!decide (a = b))), True) := by
  have : (a != b) = !decide (a = b) := (rfl)
  simp [binV, binInt, this]
theorem bv_lss : binV .lss (.val (.int k a)) (.val (.int k b)) = some (.val (.bool (decide (a < b))), True) := by simp [binV, binInt]
theorem bv_leq : binV .leq (.val (.int k a)) (.val (.int k b)) = some (.val (.bool (decide (a ≤ b))), True) := by simp [binV, binInt]
theorem bv_gtr : binV .gtr (.val (.int k a)) (.val (.int k b)) = some (.val (.bool (decide (b < a))), True) := by simp [binV, binInt]
theorem bv_geq : binV .geq (.val (.int k a)) (.val (.int k b)) = some (.val (.bool (decide (b ≤ a))), True) := by simp [binV, binInt]
theorem bv_shl {k' : IntKind} : binV .shl (.val (.int k a)) (.val (.int k' b)) = some (.val (.int k (k.wrap (a * 2 ^ (min b.toNat k.bits)))), 0 ≤ b) := (rfl)
theorem bv_shr {k' : IntKind} : binV .shr (.val (.int k a)) (.val (.int k' b)) = some (.val (.int k (a.fdiv (2 ^ (min b.toNat k.bits)))), 0 ≤ b) := (rfl)
theorem bv_and : binV .and (.val (.int k a)) (.val (.int k b)) = some (.val (.int k (k.wrap ((BitVec.ofInt k.bits a &&& BitVec.ofInt k.bits b).toNat : Int))), True) := by simp [binV, binInt]
theorem bv_or : binV .or (.val (.int k a)) (.val (.int k b)) = some (.val (.int k (k.wrap ((BitVec.ofInt k.bits a ||| BitVec.ofInt k.bits b).toNat : Int))), True) := by simp [binV, binInt]
theorem bv_xor : binV .xor (.val (.int k a)) (.val (.int k b)) = some (.val (.int k (k.wrap ((BitVec.ofInt k.bits a ^^^ BitVec.ofInt k.bits b).toNat : Int))), True) := by simp [binV, binInt]
theorem bv_not : binV .andNot (.val (.int k a)) (.val (.int k b)) = some (.val (.int k (k.wrap ((BitVec.ofInt k.bits a &&& ~~~ BitVec.ofInt k.bits b).toNat : Int))), True) := by simp [binV, binInt]
theorem eqo_t {ng : Bool} {x : Opd} {i : Nat} {fr : Fr} : eqoV ng x (.t i) fr = eqbV ng (x.ev fr) (fr i) := (rfl)
theorem eqo_b {ng : Bool} {x : Opd} {b : Bool} {fr : Fr} : eqoV ng x (.c (.val (.bool b))) fr = eqbV ng (x.ev fr) (.val (.bool b)) := (rfl)
theorem eqo_n {ng : Bool} {x : Opd} {fr : Fr} : eqoV ng x (.c (.val (.slice none 0 0))) fr = nilV ng (x.ev fr) := (rfl)
theorem nil_r {ng : Bool} {t o n : Nat} : nilV ng (.ref t o (n + 1)) = some (.val (.bool ng)) := (rfl)
theorem nil_n {ng : Bool} : nilV ng (.val (.slice none 0 0)) = some (.val (.bool (!ng))) := (rfl)
theorem eb_eq {x y : Bool} : eqbV false (.val (.bool x)) (.val (.bool y)) = some (.val (.bool (x == y))) := (rfl)
theorem eb_ne {x y : Bool} : eqbV true (.val (.bool x)) (.val (.bool y)) = some (.val (.bool (!(x == y)))) := (rfl)
theorem un_not : unV .not (.val (.bool t)) = some (.val (.bool (!t))) := (rfl)
theorem un_neg : unV .neg (.val (.int k a)) = some (.val (.int k (k.wrap (0 - a)))) := (rfl)
theorem andK_mk {c A : Prop} (h1 : c) (h2 : A) : andK c A := ⟨h1, h2⟩
theorem len_ref {t o n : Nat} : lenV (.ref t o n) = some (n : Int) := (rfl)
theorem len_nil {n c : Nat} : lenV (.val (.slice none n c)) = some (n : Int) := (rfl)
theorem intV_i {n : Int} : intV (.val (.int k n)) = some n := (rfl)
end

theorem pick_dt {p : Prop} [Decidable p] {a b : LV} (h : p) : (if decide p = true then a else b) = a := by rw [if_pos (decide_eq_true h)]
theorem pick_df {p : Prop} [Decidable p] {a b : LV} (h : ¬ p) : (if decide p = true then a else b) = b := by rw [decide_eq_false h]; rfl
def LV.lo1 (n : Nat) : LV → Bool
  | .ref t _ _ => decide (t < n)
  | .ptr t _ => decide (t < n)
  | .mp t => decide (t < n)
  | .clo _ cs => cs.all fun p => decide (p.1 < n)
  | _ => true
def LV.lo (n : Nat) : LV → Bool
  | .agg cs => cs.all (LV.lo1 n)
  | .tup vs => vs.all fun v => match v with | .agg cs => cs.all (LV.lo1 n) | v => LV.lo1 n v
  | v => LV.lo1 n v

theorem rn1_id {ρ : Nat → Nat} {n : Nat} (h : ∀ t, t < n → ρ t = t) {v : LV} (hv : v.lo1 n = true) : rn1 ρ v = v := by
  cases v <;> simp only [LV.lo1, decide_eq_true_eq] at hv <;> simp only [rn1]
  case ref t o m => rw [h t hv]
  case ptr t o => rw [h t hv]
  case mp t => rw [h t hv]
  case clo f cs =>
    congr 1
    rw [List.all_eq_true] at hv
    conv => rhs; rw [← List.map_id cs]
    apply List.map_congr_left
    intro p hp
    have := hv p hp
    simp only [decide_eq_true_eq] at this
    simp [h p.1 this]

theorem rn1s_id {ρ : Nat → Nat} {n : Nat} (h : ∀ t, t < n → ρ t = t) {cs : List LV} (hv : cs.all (LV.lo1 n) = true) : cs.map (rn1 ρ) = cs := by
  rw [List.all_eq_true] at hv
  conv => rhs; rw [← List.map_id cs]
  exact List.map_congr_left fun c hc => rn1_id h (hv c hc)

theorem rn0_id {ρ : Nat → Nat} {n : Nat} (h : ∀ t, t < n → ρ t = t) {v : LV} (hv : (match v with | .agg cs => cs.all (LV.lo1 n) | v => LV.lo1 n v) = true) : rn0 ρ v = v := by
  cases v <;> simp only [rn0] <;> try (exact rn1_id h hv)
  case agg cs => rw [rn1s_id h hv]

theorem rn_id {ρ : Nat → Nat} {n : Nat} (h : ∀ t, t < n → ρ t = t) {v : LV} (hv : v.lo n = true) : rn ρ v = v := by
  cases v <;> simp only [rn] <;> try (exact rn0_id h hv)
  case tup vs =>
    congr 1
    simp only [LV.lo, List.all_eq_true] at hv
    conv => rhs; rw [← List.map_id vs]
    exact List.map_congr_left fun c hc => rn0_id h (hv c hc)

def Pre' (M N : Mem) : Prop := M.length ≤ N.length ∧ ∀ u, u < M.length → N[u]? = M[u]?

theorem cmp_drop {M L : Mem} {v : LV} (hv : v.lo M.length = true) : Cmp M (M ++ L) v M v := by
  refine ⟨⟨fun t => if t < M.length then t else t + L.length, fun t ht => by simp [ht], fun t ht => ?_, fun t blk hl => .inl ?_, fun t t' b b' h h' e => ?_, rn_id (n := M.length) (fun t ht => by simp [ht]) hv⟩, Nat.le_refl _⟩
  · simp only [List.length_append, if_neg (Nat.not_lt.2 ht)]; omega
  · have ht := hl.lt
    simp only [if_pos ht]
    refine ⟨?_, hl⟩
    unfold Live at *
    rw [List.getElem?_append_left ht]; exact hl
  · simpa [h.lt, h'.lt] using e

theorem cmp_drop0 {M : Mem} {v : LV} (hv : v.lo M.length = true) : Cmp M M v M v := by
  have := cmp_drop (M := M) (L := []) hv
  simpa using this

theorem cmp_dropB {M L : Mem} {p q : Prop} [Decidable p] [Decidable q] (h : p ↔ q) : Cmp M (M ++ L) (.val (.bool (decide p))) M (.val (.bool (decide q))) := by
  rw [show decide p = decide q by simp [h]]; exact cmp_drop rfl
theorem cmp_dropF {M L : Mem} {q : Prop} [Decidable q] (h : ¬ q) : Cmp M (M ++ L) (.val (.bool false)) M (.val (.bool (decide q))) := by
  rw [decide_eq_false h]; exact cmp_drop rfl
theorem cmp_dropT {M L : Mem} {q : Prop} [Decidable q] (h : q) : Cmp M (M ++ L) (.val (.bool true)) M (.val (.bool (decide q))) := by
  rw [decide_eq_true h]; exact cmp_drop rfl
theorem cmp_pre {M Me : Mem} {v : LV} (hp : Pre' M Me) (hv : v.lo M.length = true) : Cmp M Me v M v := by
  obtain ⟨L, rfl⟩ : ∃ L, Me = M ++ L := ⟨Me.drop M.length, by
    have h1 : Me.take M.length = M := by
      apply List.ext_getElem?
      intro i
      rw [List.getElem?_take]
      split
      · rename_i h; exact hp.2 i h
      · rename_i h; rw [List.getElem?_eq_none (Nat.le_of_not_lt h)]
    conv => lhs; rw [← List.take_append_drop M.length Me, h1]⟩
  exact cmp_drop hv

def keepR (n j l : Nat) : Nat → Nat := fun t => if t < n then t else if t = n then n + j else t + l
theorem keepR_n {n j l : Nat} : keepR n j l n = n + j := by simp [keepR]
theorem keepR_lt {n j l t : Nat} (h : t < n) : keepR n j l t = t := by simp [keepR, h]

theorem cmp_keep1 {M L : Mem} {j e : Nat} {cs : List LV} {v ve : LV} (hj : L[j]? = some (some (.row cs true e))) (hcs : cs.all (LV.lo1 M.length) = true) (hv : rn (keepR M.length j L.length) v = ve) :
    Cmp M (M ++ L) ve (M ++ [some (.row cs true e)]) v := by
  have hjl : j < L.length := by
    rcases Nat.lt_or_ge j L.length with h | h
    · exact h
    · rw [List.getElem?_eq_none h] at hj; cases hj
  have hid : ∀ t, t < M.length → keepR M.length j L.length t = t := fun t ht => keepR_lt ht
  refine ⟨⟨keepR M.length j L.length, hid, fun t ht => ?_, fun t blk hl => ?_, fun t t' b b' h h' e => ?_, hv⟩, by simp⟩
  · simp only [List.length_append, List.length_singleton] at ht ⊢
    unfold keepR
    rw [if_neg (by omega), if_neg (by omega)]; omega
  · rcases live_push hl with ⟨h1, h2⟩ | ⟨rfl, rfl⟩
    · refine .inl ?_
      rw [hid t h1]
      refine ⟨?_, h2⟩
      unfold Live at *
      rw [List.getElem?_append_left h1]; exact h2
    · refine .inr ?_
      rw [keepR_n]
      refine ⟨?_, rfl⟩
      unfold Live
      simp only [rnB]
      rw [at_j, hj, rn1s_id hid hcs]
  · have h1 := h.lt
    have h2 := h'.lt
    simp only [List.length_append, List.length_singleton] at h1 h2
    unfold keepR at e
    split at e <;> split at e
    · exact e
    · split at e <;> omega
    · split at e <;> omega
    · omega

end Go.Ab

namespace Go.Ab
open Go

structure Cell where
  a : Int
  b : Int
  c : Int
deriving DecidableEq

instance : Inhabited Cell := ⟨⟨0, 0, 0⟩⟩
def Cell.row (x : Cell) : List LV := [.I x.a, .I x.b, .I x.c]

def triL (cs : List Cell) : List LV := cs.flatMap Cell.row
def intL (xs : List Int) : List LV := xs.map LV.I

def Has (M : Mem) (t o : Nat) (vs : List LV) : Prop := ∃ row, getRow M t = some row ∧ o + vs.length ≤ row.length ∧ (row.drop o).take vs.length = vs
abbrev Ints (M : Mem) (t o : Nat) (xs : List Int) : Prop := Has M t o (intL xs)
abbrev Tri (M : Mem) (t o : Nat) (cs : List Cell) : Prop := Has M t o (triL cs)

theorem row_lt {M : Mem} {t : Nat} {row : List LV} (h : getRow M t = some row) : t < M.length := by
  obtain ⟨_, _, hl⟩ := getRow_live h; exact hl.lt
theorem Has.lt {M : Mem} {t o : Nat} {vs : List LV} (h : Has M t o vs) : t < M.length := by obtain ⟨_, h1, _⟩ := h; exact row_lt h1
theorem Has.app {M L : Mem} {t o : Nat} {vs : List LV} (h : Has M t o vs) : Has (M ++ L) t o vs := by
  obtain ⟨row, h1, h3, h2⟩ := h
  exact ⟨row, by rw [getRow_app (row_lt h1)]; exact h1, h3, h2⟩
theorem Has.get {M : Mem} {t o k : Nat} {vs : List LV} (h : Has M t o vs) (hk : k < vs.length) : getCell M t (o + k) = vs[k]? := by
  obtain ⟨row, h1, h3, h2⟩ := h
  unfold getCell
  rw [h1]
  simp only [Option.bind_some]
  conv => rhs; rw [← h2]
  rw [List.getElem?_take, if_pos hk, List.getElem?_drop]
theorem Has.gets {M : Mem} {t o k n : Nat} {vs : List LV} (h : Has M t o vs) (hk : k + n ≤ vs.length) : getCells M t (o + k) n = some ((vs.drop k).take n) := by
  obtain ⟨row, h1, h3, h2⟩ := h
  unfold getCells
  rw [h1]
  simp only [Option.bind_some]
  rw [if_pos (by omega)]
  congr 1
  conv => rhs; rw [← h2]
  rw [List.drop_take, List.take_take, List.drop_drop, Nat.min_eq_left (by omega)]
theorem Has.all {M : Mem} {t o : Nat} {vs : List LV} (h : Has M t o vs) : getCells M t o vs.length = some vs := by
  have := h.gets (k := 0) (n := vs.length) (by omega)
  simpa using this
theorem Has.empty {M : Mem} {t o : Nat} {row : List LV} (h : getRow M t = some row) (ho : o ≤ row.length) : Has M t o [] := ⟨row, h, by simpa using ho, by simp⟩
theorem Has.new {M : Mem} {vs : List LV} {w : Bool} {e : Nat} : Has (M ++ [some (.row vs w e)]) M.length 0 vs := ⟨vs, by rw [row_0]; rfl, by simp, by simp⟩

theorem intL_len (xs : List Int) : (intL xs).length = xs.length := by simp [intL]
theorem triL_len (cs : List Cell) : (triL cs).length = cs.length * 3 := by
  induction cs with
  | nil => rfl
  | cons c cs ih => simp only [triL, List.flatMap_cons, List.length_append] at ih ⊢; rw [ih]; simp [Cell.row]; omega
theorem triL_drop (cs : List Cell) : ∀ k, (triL cs).drop (k * 3) = triL (cs.drop k) := by
  induction cs with
  | nil => intro k; simp [triL]
  | cons c cs ih =>
    intro k
    cases k with
    | zero => simp
    | succ k =>
      have : (k + 1) * 3 = k * 3 + 3 := by omega
      rw [this]
      show ((c.row ++ triL cs).drop (k * 3 + 3)) = triL (cs.drop k)
      rw [← ih k, Nat.add_comm, ← List.drop_drop]
      congr 1
theorem triL_at {cs : List Cell} {k : Nat} (hk : k < cs.length) : ((triL cs).drop (k * 3)).take 3 = (cs.getD k default).row := by
  rw [triL_drop]
  have : cs.drop k = cs.getD k default :: cs.drop (k + 1) := by
    rw [List.drop_eq_getElem_cons hk]
    simp [hk]
  rw [this]
  rfl

theorem Ints.get {M : Mem} {t o k : Nat} {xs : List Int} (h : Ints M t o xs) (hk : k < xs.length) : getCell M t (o + k) = some (.I (xs.getD k 0)) := by
  rw [Has.get h (by rw [intL_len]; exact hk)]
  simp [intL, hk]
theorem Tri.get {M : Mem} {t o k : Nat} {cs : List Cell} (h : Tri M t o cs) (hk : k < cs.length) : getCells M t (o + k * 3) 3 = some (cs.getD k default).row := by
  rw [Has.gets h (by rw [triL_len]; omega), triL_at hk]
theorem Tri.get1 {M : Mem} {t o k j : Nat} {cs : List Cell} (h : Tri M t o cs) (hk : k < cs.length) (hj : j < 3) : getCell M t (o + k * 3 + j) = (cs.getD k default).row[j]? := by
  rw [Nat.add_assoc, Has.get h (by rw [triL_len]; omega)]
  have := triL_at hk
  rw [← this, List.getElem?_take, if_pos hj, List.getElem?_drop]
theorem Tri.get_a {M : Mem} {t o k : Nat} {cs : List Cell} (h : Tri M t o cs) (hk : k < cs.length) : getCell M t (o + k * 3) = some (.I (cs.getD k default).a) := by
  exact h.get1 (j := 0) hk (by omega)
theorem Tri.get_b {M : Mem} {t o k : Nat} {cs : List Cell} (h : Tri M t o cs) (hk : k < cs.length) : getCell M t (o + k * 3 + 1) = some (.I (cs.getD k default).b) := by
  exact h.get1 (j := 1) hk (by omega)
theorem Tri.get_c {M : Mem} {t o k : Nat} {cs : List Cell} (h : Tri M t o cs) (hk : k < cs.length) : getCell M t (o + k * 3 + 2) = some (.I (cs.getD k default).c) := by
  exact h.get1 (j := 2) hk (by omega)

theorem intL_lo {n : Nat} (xs : List Int) : (intL xs).all (LV.lo1 n) = true := by
  rw [List.all_eq_true]; intro v hv
  obtain ⟨x, _, rfl⟩ := List.mem_map.1 hv; rfl
theorem triL_lo {n : Nat} (cs : List Cell) : (triL cs).all (LV.lo1 n) = true := by
  rw [List.all_eq_true]; intro v hv
  obtain ⟨x, _, h⟩ := List.mem_flatMap.1 hv
  simp only [Cell.row, List.mem_cons, List.mem_nil_iff, or_false] at h
  rcases h with rfl | rfl | rfl <;> rfl
theorem callK_of {P : Program} {f : FuncId} {args : List LV} {M N : Mem} {v : LV} {A : LV → Mem → Prop} (h : CallsTo P f args M v N) (hA : A v N) : callK P f args M A := h.mono fun _ _ e => by rw [e.1, e.2]; exact hA
theorem callR_of {P : Program} {f : FuncId} {args : List LV} {M : Mem} {A B : LV → Mem → Prop} (h : CallsR P f args M B) (hA : ∀ v N, B v N → A v N) : callK P f args M A := h.mono hA
theorem cell_eq {c d : Cell} : c = d ↔ c.a = d.a ∧ c.b = d.b ∧ c.c = d.c := by
  cases c; cases d; simp
theorem cell_eta {c : Cell} : (⟨c.a, c.b, c.c⟩ : Cell) = c := (rfl)
theorem eqI {a b : Int} (h : a = b) : LV.I a = LV.I b := by rw [h]
theorem eqB {a b : Bool} (h : a = b) : LV.B a = LV.B b := by rw [h]
theorem made_int (n : Nat) : (List.replicate n [LV.val (Value.int IntKind.i64 0)]).flatten = intL (List.replicate n 0) := by
  induction n with
  | zero => rfl
  | succ n ih => simp only [List.replicate_succ, List.flatten_cons, ih]; rfl
theorem intL_get {xs : List Int} {k : Nat} (h : k < xs.length) : (intL xs)[k]? = some (LV.val (Value.int IntKind.i64 (xs.getD k 0))) := by simp [intL, h]
theorem intL_set {xs : List Int} {k : Nat} {v : Int} : (intL xs).set k (.I v) = intL (xs.set k v) := by simp [intL, List.map_set]
theorem splice_int {xs : List Int} {k : Nat} {v : Int} (h : k < xs.length) : splice (intL xs) k [LV.val (Value.int IntKind.i64 v)] = intL (xs.set k v) := by
  rw [splice_1 (by rw [intL_len]; exact h)]; exact intL_set
theorem triL_append (xs ys : List Cell) : triL (xs ++ ys) = triL xs ++ triL ys := by simp [triL]
theorem intL_append (xs ys : List Int) : intL (xs ++ ys) = intL xs ++ intL ys := by simp [intL]
theorem triL_take (cs : List Cell) : ∀ k, (triL cs).take (k * 3) = triL (cs.take k) := by
  induction cs with
  | nil => intro k; simp [triL]
  | cons c cs ih =>
    intro k
    cases k with
    | zero => simp [triL]
    | succ k =>
      have : (k + 1) * 3 = k * 3 + 3 := by omega
      rw [this]
      show ((c.row ++ triL cs).take (k * 3 + 3)) = c.row ++ triL (cs.take k)
      rw [← ih k, List.take_append, List.take_of_length_le (by simp [Cell.row])]
      congr 2
theorem natI (k : Nat) : ((k : Int) + 1) = ((k + 1 : Nat) : Int) := by omega
end Go.Ab

namespace Go.Ab
open Go

abbrev Pre := Pre'
theorem Pre.refl (M : Mem) : Pre M M := ⟨Nat.le_refl _, fun _ _ => rfl⟩
theorem Pre.trans {M N O : Mem} (h : Pre M N) (k : Pre N O) : Pre M O := ⟨Nat.le_trans h.1 k.1, fun u hu => (k.2 u (Nat.lt_of_lt_of_le hu h.1)).trans (h.2 u hu)⟩
theorem Pre.app (M L : Mem) : Pre M (M ++ L) := ⟨by simp, fun u hu => List.getElem?_append_left hu⟩
theorem Pre.app' {M N L : Mem} (h : Pre M N) : Pre M (N ++ L) := h.trans (Pre.app N L)
theorem Live.pre {M N : Mem} {t : Nat} {b : Blk} (h : Live M t b) (hp : Pre M N) : Live N t b := by unfold Live; rw [hp.2 t h.lt]; exact h
theorem Live.app {M L : Mem} {t : Nat} {b : Blk} (h : Live M t b) : Live (M ++ L) t b := h.pre (Pre.app M L)
theorem Has.pre {M N : Mem} {t o : Nat} {vs : List LV} (h : Has M t o vs) (hp : Pre M N) : Has N t o vs := by
  obtain ⟨row, h1, h2⟩ := h
  refine ⟨row, ?_, h2⟩
  unfold getRow at *
  rw [hp.2 t (row_lt (M := M) (by unfold getRow; exact h1))]; exact h1
theorem Live.row {M : Mem} {t e : Nat} {cs : List LV} {w : Bool} (h : Live M t (.row cs w e)) : getRow M t = some cs := by unfold getRow; rw [show M[t]? = _ from h]
theorem Live.esz {M : Mem} {t e : Nat} {cs : List LV} {w : Bool} (h : Live M t (.row cs w e)) : getEsz M t = some e := by unfold getEsz; rw [show M[t]? = _ from h]
theorem Live.cell {M : Mem} {t e o : Nat} {cs : List LV} {w : Bool} (h : Live M t (.row cs w e)) : getCell M t o = cs[o]? := by unfold getCell; rw [h.row]; rfl
theorem Live.cells {M : Mem} {t e o n : Nat} {cs : List LV} {w : Bool} (h : Live M t (.row cs w e)) : getCells M t o n = if o + n ≤ cs.length then some ((cs.drop o).take n) else none := by unfold getCells; rw [h.row]; rfl
theorem Live.setC {M : Mem} {t e o : Nat} {cs vs : List LV} (h : Live M t (.row cs true e)) : setCells M t o vs = if o + vs.length ≤ cs.length then some (M.set t (some (.row (splice cs o vs) true e))) else none := by
  unfold setCells; rw [show M[t]? = _ from h]
theorem Live.has {M : Mem} {t e : Nat} {cs : List LV} {w : Bool} (h : Live M t (.row cs w e)) : Has M t 0 cs := ⟨cs, h.row, by simp, by simp⟩
theorem Live.set_ne {M : Mem} {t u : Nat} {b : Blk} {x : Option Blk} (h : Live M u b) (hn : t ≠ u) : Live (M.set t x) u b := by unfold Live; rw [List.getElem?_set_ne hn]; exact h
theorem Live.set_eq {M : Mem} {t : Nat} {b b' : Blk} (h : Live M t b) : Live (M.set t (some b')) t b' := by unfold Live; simp [h.lt]
theorem Live.new {M L : Mem} {b : Blk} : Live (M ++ some b :: L) M.length b := by unfold Live; rw [at_0]; rfl
theorem Live.newj {M L : Mem} {b : Blk} {j : Nat} (h : L[j]? = some (some b)) : Live (M ++ L) (M.length + j) b := by unfold Live; rw [at_j]; exact h
theorem Pre.set {M N : Mem} {t : Nat} {x : Option Blk} (h : Pre M N) (ht : M.length ≤ t) : Pre M (N.set t x) := ⟨by simpa using h.1, fun u hu => by rw [List.getElem?_set_ne (by omega)]; exact h.2 u hu⟩

theorem appendK_1 {M : Mem} {t n e b : Nat} {acc new : List LV} {A : LV → Mem → Prop} (ht : Live M t (.row acc true e)) (hn : acc.length = n * e) (hne : new.length = e) (he : 0 < e)
    (hb : (n + 1) * b ≤ 140737488355328) (hn' : n + 1 ≤ 9223372036854775807)
    (hA : ∀ M', M'.length = M.length + 2 → Live M' (M.length + 1) (.row (acc ++ new) true e) → (∀ u, u ≠ t → u < M.length → M'[u]? = M[u]?) → A (.ref (M.length + 1) 0 (n + 1)) M') :
    appendK e b (.ref t 0 n) (.ref M.length 0 1) (M ++ [some (.row new true e)]) A := by
  have htl := ht.lt
  have hg : (M ++ [some (Blk.row new true e)])[t]? = some (some (.row acc true e)) := by rw [List.getElem?_append_left htl]; exact ht
  simp only [appendK, lenS, winC, Nat.one_ne_zero, if_false, cells_0, cellsL_z, Nat.one_mul, Nat.zero_add, hne, Nat.le_refl, if_true, List.drop_zero, List.take_of_length_le (Nat.le_of_eq hne)]
  refine andK_mk ⟨hb, hn'⟩ (.inl ?_)
  simp only [appV, Nat.one_ne_zero, if_false, hg, Nat.zero_add, hn, Nat.le_refl, and_self, if_true, appK, List.drop_zero]
  rw [List.take_of_length_le (by omega), len_app]
  refine hA _ (by simp) ?_ fun u hu hul => ?_
  · unfold Live
    rw [List.getElem?_append_right (by simp)]
    simp
  · rw [List.getElem?_append_left (by simp; omega), List.getElem?_set_ne (fun e => hu e.symm), List.getElem?_append_left hul]

theorem pre_step {M0 M M' : Mem} {t j : Nat} (hp : Pre M0 M) (ht : M0.length ≤ t) (hl : M'.length = M.length + j) (hu : ∀ u, u ≠ t → u < M.length → M'[u]? = M[u]?) : Pre M0 M' :=
  ⟨by have := hp.1; omega, fun u h => by rw [hu u (by omega) (Nat.lt_of_lt_of_le h hp.1)]; exact hp.2 u h⟩
theorem live_step {M M' : Mem} {t u : Nat} {b : Blk} (h : Live M u b) (hne : u ≠ t) (hu : ∀ u, u ≠ t → u < M.length → M'[u]? = M[u]?) : Live M' u b := by
  unfold Live; rw [hu u hne h.lt]; exact h
theorem appendK_cell {M : Mem} {t : Nat} {acc : List Cell} {x y z : Int} {A : LV → Mem → Prop} (ht : Live M t (.row (triL acc) true 3)) (hl : acc.length ≤ 1000000000)
    (hA : ∀ M', M'.length = M.length + 2 → Live M' (M.length + 1) (.row (triL (acc ++ [⟨x, y, z⟩])) true 3) → (∀ u, u ≠ t → u < M.length → M'[u]? = M[u]?) → A (.ref (M.length + 1) 0 (acc ++ [(⟨x, y, z⟩ : Cell)]).length) M') :
    appendK 3 24 (.ref t 0 acc.length) (.ref M.length 0 1) (M ++ [some (.row [LV.val (.int .i64 x), LV.val (.int .i64 y), LV.val (.int .i64 z)] true 3)]) A := by
  refine appendK_1 (acc := triL acc) (new := [LV.I x, LV.I y, LV.I z]) ht (by rw [triL_len]) rfl (by omega) (by omega) (by omega) fun M' h1 h2 h3 => ?_
  have := hA M' h1 (by rw [triL_append]; exact h2) h3
  simpa using this

theorem memK_int {M : Mem} {t k : Nat} {xs : List Int} {v : Int} {A : Mem → Prop} (ht : Live M t (.row (intL xs) true 1)) (hk : k < xs.length)
    (hA : ∀ M', M'.length = M.length → Live M' t (.row (intL (xs.set k v)) true 1) → (∀ u, u ≠ t → u < M.length → M'[u]? = M[u]?) → A M') :
    memK (setCells M t k [.val (.int .i64 v)]) A := by
  rw [ht.setC, if_pos (by rw [intL_len]; simp; omega), splice_int hk]
  exact hA _ (by simp) ht.set_eq fun u hu _ => List.getElem?_set_ne (fun e => hu e.symm)
theorem cmp_keepL {M Me : Mem} {t e : Nat} {cs : List LV} {v ve : LV} (hp : Pre M Me) (ht0 : M.length ≤ t) (ht : Live Me t (.row cs true e)) (hcs : cs.all (LV.lo1 M.length) = true)
    (hv : rn (fun u => if u < M.length then u else if u = M.length then t else u + Me.length) v = ve) : Cmp M Me ve (M ++ [some (.row cs true e)]) v := by
  refine ⟨⟨fun u => if u < M.length then u else if u = M.length then t else u + Me.length, fun u hu => by simp [hu], fun u hu => ?_, fun u blk hl => ?_, fun u u' b b' h h' e => ?_, hv⟩, by simp⟩
  · simp only [List.length_append, List.length_singleton] at hu
    simp only [if_neg (show ¬ u < M.length by omega), if_neg (show ¬ u = M.length by omega)]; omega
  · rcases live_push hl with ⟨h1, h2⟩ | ⟨rfl, rfl⟩
    · refine .inl ⟨?_, h2⟩
      simp only [if_pos h1]
      exact h2.pre hp
    · refine .inr ⟨?_, rfl⟩
      simp only [Nat.lt_irrefl, if_false, if_true]
      unfold Live
      simp only [rnB]
      rw [rn1s_id (n := M.length) (fun u hu => by simp [hu]) hcs]; exact ht
  · have h1 := h.lt
    have h2 := h'.lt
    have h3 := ht.lt
    simp only [List.length_append, List.length_singleton] at h1 h2
    simp only at e
    split at e <;> split at e
    · exact e
    · split at e <;> omega
    · split at e <;> omega
    · omega
end Go.Ab

namespace Go.Ab
open Go

@[reducible] def LV.W (s : BitVec 64) : LV := .val (.int .u64 ((s.toNat : Nat) : Int))

section
variable {k : IntKind} {a b : Int} {s u : BitVec 64}
theorem bvi_add : binV .add (.val (.int .i64 a)) (.val (.int .i64 b)) = some (.val (.int .i64 (IntKind.i64.wrap (a + b))), True) := bv_add
theorem bvi_sub : binV .sub (.val (.int .i64 a)) (.val (.int .i64 b)) = some (.val (.int .i64 (IntKind.i64.wrap (a - b))), True) := bv_sub
theorem bvi_mul : binV .mul (.val (.int .i64 a)) (.val (.int .i64 b)) = some (.val (.int .i64 (IntKind.i64.wrap (a * b))), True) := bv_mul
theorem bvi_and : binV .and (.val (.int .i64 a)) (.val (.int .i64 b)) = some (.val (.int .i64 (IntKind.i64.wrap ((BitVec.ofInt 64 a &&& BitVec.ofInt 64 b).toNat : Int))), True) := bv_and
theorem bvi_or : binV .or (.val (.int .i64 a)) (.val (.int .i64 b)) = some (.val (.int .i64 (IntKind.i64.wrap ((BitVec.ofInt 64 a ||| BitVec.ofInt 64 b).toNat : Int))), True) := bv_or
theorem bvi_xor : binV .xor (.val (.int .i64 a)) (.val (.int .i64 b)) = some (.val (.int .i64 (IntKind.i64.wrap ((BitVec.ofInt 64 a ^^^ BitVec.ofInt 64 b).toNat : Int))), True) := bv_xor
theorem bvi_shl {k' : IntKind} : binV .shl (.val (.int .i64 a)) (.val (.int k' b)) = some (.val (.int .i64 (IntKind.i64.wrap (a * 2 ^ (min b.toNat 64)))), 0 ≤ b) := bv_shl
theorem bvi_shr {k' : IntKind} : binV .shr (.val (.int .i64 a)) (.val (.int k' b)) = some (.val (.int .i64 (a.fdiv (2 ^ (min b.toNat 64)))), 0 ≤ b) := bv_shr
theorem bvb_add : binV .add (.val (.int .u8 a)) (.val (.int .u8 b)) = some (.val (.int .u8 (IntKind.u8.wrap (a + b))), True) := bv_add
theorem bvb_sub : binV .sub (.val (.int .u8 a)) (.val (.int .u8 b)) = some (.val (.int .u8 (IntKind.u8.wrap (a - b))), True) := bv_sub

theorem uni_neg : unV .neg (.val (.int .i64 a)) = some (.val (.int .i64 (IntKind.i64.wrap (0 - a)))) := un_neg
theorem ofInt_toNat : BitVec.ofInt 64 ((s.toNat : Nat) : Int) = s := by
  apply BitVec.eq_of_toNat_eq
  simp
theorem wrap_toNat : IntKind.u64.wrap ((s.toNat : Nat) : Int) = ((s.toNat : Nat) : Int) := by
  have := s.isLt
  rw [IntKind.wrap_u64]
  omega
theorem w_and : binV .and (.val (.int .u64 ((s.toNat : Nat) : Int))) (.val (.int .u64 ((u.toNat : Nat) : Int))) = some (.val (.int .u64 (((s &&& u).toNat : Nat) : Int)), True) := by
  rw [bv_and]
  show some (LV.val (.int .u64 (IntKind.u64.wrap (((BitVec.ofInt 64 ((s.toNat : Nat) : Int) &&& BitVec.ofInt 64 ((u.toNat : Nat) : Int)).toNat : Nat) : Int))), True) = _
  rw [ofInt_toNat, ofInt_toNat, wrap_toNat]
theorem w_or : binV .or (.val (.int .u64 ((s.toNat : Nat) : Int))) (.val (.int .u64 ((u.toNat : Nat) : Int))) = some (.val (.int .u64 (((s ||| u).toNat : Nat) : Int)), True) := by
  rw [bv_or]
  show some (LV.val (.int .u64 (IntKind.u64.wrap (((BitVec.ofInt 64 ((s.toNat : Nat) : Int) ||| BitVec.ofInt 64 ((u.toNat : Nat) : Int)).toNat : Nat) : Int))), True) = _
  rw [ofInt_toNat, ofInt_toNat, wrap_toNat]
theorem w_xor : binV .xor (.val (.int .u64 ((s.toNat : Nat) : Int))) (.val (.int .u64 ((u.toNat : Nat) : Int))) = some (.val (.int .u64 (((s ^^^ u).toNat : Nat) : Int)), True) := by
  rw [bv_xor]
  show some (LV.val (.int .u64 (IntKind.u64.wrap (((BitVec.ofInt 64 ((s.toNat : Nat) : Int) ^^^ BitVec.ofInt 64 ((u.toNat : Nat) : Int)).toNat : Nat) : Int))), True) = _
  rw [ofInt_toNat, ofInt_toNat, wrap_toNat]
theorem w_not : binV .andNot (.val (.int .u64 ((s.toNat : Nat) : Int))) (.val (.int .u64 ((u.toNat : Nat) : Int))) = some (.val (.int .u64 (((s &&& ~~~u).toNat : Nat) : Int)), True) := by
  rw [bv_not]
  show some (LV.val (.int .u64 (IntKind.u64.wrap (((BitVec.ofInt 64 ((s.toNat : Nat) : Int) &&& ~~~BitVec.ofInt 64 ((u.toNat : Nat) : Int)).toNat : Nat) : Int))), True) = _
  rw [ofInt_toNat, ofInt_toNat, wrap_toNat]
theorem w_and1 : binV .and (.val (.int .u64 ((s.toNat : Nat) : Int))) (.val (.int .u64 1)) = some (.val (.int .u64 (((s &&& 1#64).toNat : Nat) : Int)), True) := by
  have h := w_and (s := s) (u := 1#64)
  rw [show (((1#64).toNat : Nat) : Int) = 1 from rfl] at h; exact h
theorem w_or0 : binV .or (.val (.int .u64 0)) (.val (.int .u64 ((u.toNat : Nat) : Int))) = some (.val (.int .u64 (((0#64 ||| u).toNat : Nat) : Int)), True) := by
  have h := w_or (s := 0#64) (u := u)
  rw [show (((0#64).toNat : Nat) : Int) = 0 from rfl] at h; exact h
theorem w_shl1 {k' : IntKind} : binV .shl (.val (.int .u64 1)) (.val (.int k' b)) = some (.val (.int .u64 (((1#64 <<< b.toNat).toNat : Nat) : Int)), 0 ≤ b) := by
  rw [bv_shl]
  congr 1
  rw [show (IntKind.u64.wrap (1 * 2 ^ (min b.toNat IntKind.u64.bits))) = (((1#64 <<< b.toNat).toNat : Nat) : Int) from ?_]
  rw [IntKind.wrap_u64, Int.one_mul, BitVec.toNat_shiftLeft, Nat.shiftLeft_eq]
  show (2 : Int) ^ min b.toNat 64 % 18446744073709551616 = _
  rcases Nat.lt_or_ge b.toNat 64 with h | h
  · rw [Nat.min_eq_left (Nat.le_of_lt h)]
    simp
  · rw [Nat.min_eq_right h]
    have e : (1#64).toNat * 2 ^ b.toNat % 2 ^ 64 = 0 := by
      obtain ⟨d, hd⟩ : ∃ d, b.toNat = 64 + d := ⟨b.toNat - 64, by omega⟩
      rw [hd, Nat.pow_add]
      simp
    rw [e]; rfl
theorem w_shr {k' : IntKind} : binV .shr (.val (.int .u64 ((s.toNat : Nat) : Int))) (.val (.int k' b)) = some (.val (.int .u64 (((s >>> b.toNat).toNat : Nat) : Int)), 0 ≤ b) := by
  rw [bv_shr]
  congr 1
  rw [show (((s.toNat : Nat) : Int).fdiv (2 ^ (min b.toNat IntKind.u64.bits))) = (((s >>> b.toNat).toNat : Nat) : Int) from ?_]
  rw [Int.fdiv_eq_ediv_of_nonneg _ (Int.pow_nonneg (by decide)), BitVec.toNat_ushiftRight, Nat.shiftRight_eq_div_pow]
  show ((s.toNat : Nat) : Int) / 2 ^ min b.toNat 64 = _
  rcases Nat.lt_or_ge b.toNat 64 with h | h
  · rw [Nat.min_eq_left (Nat.le_of_lt h)]
    push_cast
    rfl
  · rw [Nat.min_eq_right h]
    have h1 : s.toNat < 2 ^ 64 := s.isLt
    have h2 : s.toNat / 2 ^ b.toNat = 0 := Nat.div_eq_of_lt (Nat.lt_of_lt_of_le h1 (Nat.pow_le_pow_right (by decide) h))
    rw [h2]
    omega
theorem w_sub1 : binV .sub (.val (.int .u64 ((s.toNat : Nat) : Int))) (.val (.int .u64 1)) = some (.val (.int .u64 (((s - 1#64).toNat : Nat) : Int)), True) := by
  rw [bv_sub, IntKind.wrap_u64, BitVec.toNat_sub]
  have := s.isLt
  congr 4
  show (((s.toNat : Nat) : Int) - 1) % 18446744073709551616 = (((2 ^ 64 - 1 + s.toNat) % 2 ^ 64 : Nat) : Int)
  omega
theorem w_neg : unV .neg (.val (.int .u64 ((s.toNat : Nat) : Int))) = some (.val (.int .u64 (((-s).toNat : Nat) : Int))) := by
  rw [un_neg, IntKind.wrap_u64, BitVec.toNat_neg]
  have := s.isLt
  congr 3
  show (0 - ((s.toNat : Nat) : Int)) % 18446744073709551616 = (((2 ^ 64 - s.toNat) % 2 ^ 64 : Nat) : Int)
  omega
theorem w_inj : (((s.toNat : Nat) : Int) = ((u.toNat : Nat) : Int)) = (s = u) := by
  refine propext ⟨fun h => BitVec.eq_of_toNat_eq (by omega), fun h => by rw [h]⟩
theorem w_eq0 : (((s.toNat : Nat) : Int) = 0) = (s = 0#64) := by
  refine propext ⟨fun h => BitVec.eq_of_toNat_eq (by simp; omega), fun h => by rw [h]; rfl⟩
theorem w_eq1 : (((s.toNat : Nat) : Int) = 1) = (s = 1#64) := by
  refine propext ⟨fun h => BitVec.eq_of_toNat_eq (by simp; omega), fun h => by rw [h]; rfl⟩
end
end Go.Ab

namespace Go.Ab
open Go
def SXd := (And.intro (And.intro (And.intro (And.intro (And.intro (And.intro @evc_skip (And.intro @evc_ops @evc_draw)) (And.intro (And.intro @evc_seq @evc_cond) (And.intro @evc_block @evc_exit))) (And.intro (And.intro @evc_ret (And.intro @opsK_r @putK_r)) (And.intro (And.intro @cntK_r @seqK_n) (And.intro @seqK_e @seqK_r)))) (And.intro (And.intro (And.intro @evdK_r (And.intro @evd1K_r @evd2K_r)) (And.intro (And.intro @endQ_r @endQ_n) (And.intro @endR_r @endR_n))) (And.intro (And.intro @thenK_n (And.intro @thenK_e @thenK_r)) (And.intro (And.intro @blockK_n @blockK_e) (And.intro @blockK_r @evops_n))))) (And.intro (And.intro (And.intro (And.intro @evops_c (And.intro @evg_n @evg_s)) (And.intro (And.intro @evd_n @ev_mv) (And.intro @ev_pick @ev_bin))) (And.intro (And.intro @ev_eqs (And.intro @ev_eqb @ev_un)) (And.intro (And.intro @ev_conv @ev_build) (And.intro @ev_load1 @ev_loadN)))) (And.intro (And.intro (And.intro @ev_nilck (And.intro @ev_mkf @ev_slS)) (And.intro (And.intro @ev_slA @ev_slT) (And.intro @ev_fieldAddr @ev_field))) (And.intro (And.intro (And.intro @ev_idxS @ev_idxA) (And.intro @ev_index @ev_idxT)) (And.intro (And.intro @ev_lookup @ev_extract) (And.intro @ev_len @ev_lenT)))))) (And.intro (And.intro (And.intro (And.intro (And.intro @ev_mm (And.intro @ev_any @ev_box)) (And.intro (And.intro @ev_alloc @ev_buildSl) (And.intro @ev_mksl @ev_mkmap))) (And.intro (And.intro @ev_sl0 (And.intro @ev_store @ev_append)) (And.intro (And.intro @ev_copy @ev_call) (And.intro @ev_callV @ev_clear)))) (And.intro (And.intro (And.intro @ev_mupd (And.intro @evd_mv @evd_pick)) (And.intro (And.intro @evd_bin @evd_eqs) (And.intro @evd_eqb @evd_un))) (And.intro (And.intro @evd_conv (And.intro @evd_build @evd_load1)) (And.intro (And.intro @evd_loadN @evd_nilck) (And.intro @evd_mkf @evd_slS))))) (And.intro (And.intro (And.intro (And.intro @evd_slA (And.intro @evd_slT @evd_fieldAddr)) (And.intro (And.intro @evd_field @evd_idxS) (And.intro @evd_idxA @evd_index))) (And.intro (And.intro @evd_idxT (And.intro @evd_lookup @evd_extract)) (And.intro (And.intro @evd_len @evd_lenT) (And.intro @evd_mm @evd_any)))) (And.intro (And.intro (And.intro @evd_box (And.intro @evd_alloc @evd_buildSl)) (And.intro (And.intro @evd_mksl @evd_mkmap) (And.intro @evd_sl0 @evd_store))) (And.intro (And.intro (And.intro @evd_append @evd_copy) (And.intro @evd_clear @evd_mupd)) (And.intro (And.intro @evd_call @evd_callV) (And.intro @upd_at @selL_n)))))))
def SXu := (And.intro (And.intro (And.intro (And.intro (And.intro (And.intro (And.intro @clearK_r (And.intro @ev_t @ev_c)) (And.intro @pick_dt (And.intro @pick_df @sopK_s))) (And.intro (And.intro @aopK_s (And.intro @memK_s @appK_s)) (And.intro @storeK_v (And.intro @storeK_r @storeK_p)))) (And.intro (And.intro (And.intro @storeK_m (And.intro @storeK_f @storeK_a)) (And.intro @andK_t (And.intro @andK_d @condC_dt))) (And.intro (And.intro @condC_df (And.intro @guardO_dtt @guardO_dtf)) (And.intro (And.intro @guardO_dft @guardO_dff) (And.intro @wrap_id @condC_t))))) (And.intro (And.intro (And.intro (And.intro @condC_f (And.intro @condC_not @guardO_tt)) (And.intro @guardO_ff (And.intro @guardO_tf @guardO_ft))) (And.intro (And.intro @guardO_not (And.intro @guardO_u @guardO_ud)) (And.intro @putO_s (And.intro @putO_n @callVK_c)))) (And.intro (And.intro (And.intro @bvi_add (And.intro @bvi_sub @bvi_mul)) (And.intro @bvi_and (And.intro @bvi_or @bvi_xor))) (And.intro (And.intro @bvi_shl (And.intro @bvi_shr @bvb_add)) (And.intro (And.intro @bvb_sub @uni_neg) (And.intro @w_and @w_or)))))) (And.intro (And.intro (And.intro (And.intro (And.intro @w_xor (And.intro @w_not @w_and1)) (And.intro @w_or0 (And.intro @w_shl1 @w_shr))) (And.intro (And.intro @w_sub1 (And.intro @w_neg @w_inj)) (And.intro @w_eq0 (And.intro @w_eq1 @bv_quo)))) (And.intro (And.intro (And.intro @bv_rem (And.intro @bv_eql @bv_neq)) (And.intro @bv_lss (And.intro @bv_leq @bv_gtr))) (And.intro (And.intro @bv_geq (And.intro @eb_eq @eb_ne)) (And.intro (And.intro @eqo_t @eqo_b) (And.intro @eqo_n @nil_r))))) (And.intro (And.intro (And.intro (And.intro @nil_n (And.intro @un_not @len_ref)) (And.intro @len_nil (And.intro @intV_i @setC_0))) (And.intro (And.intro @setC_j (And.intro @row_0 @row_j)) (And.intro @esz_0 (And.intro @esz_j @cell_0)))) (And.intro (And.intro (And.intro @cell_j (And.intro @cells_0 @cells_j)) (And.intro @len_app (And.intro @rowL_z @rowL_s))) (And.intro (And.intro @eszL_z (And.intro @eszL_s @cellL_z)) (And.intro (And.intro @cellL_s @cellsL_z) (And.intro @cellsL_s @setL_z))))))) (And.intro (And.intro (And.intro (And.intro (And.intro (And.intro @setL_s (And.intro @List.append_assoc.{0} @List.cons_append.{0})) (And.intro @List.nil_append.{0} (And.intro @List.length_cons.{0} @List.length_nil.{0}))) (And.intro (And.intro @List.getD_cons_zero.{0} (And.intro @List.getD_cons_succ.{0} @List.getD_nil.{0})) (And.intro @List.getElem?_cons_zero.{0} (And.intro @List.getElem?_cons_succ.{0} @List.map_cons.{0,0})))) (And.intro (And.intro (And.intro @List.map_nil.{0,0} (And.intro @Option.map_some.{0,0} @Option.bind_some.{0,0})) (And.intro @decide_true (And.intro @decide_false @Bool.not_true))) (And.intro (And.intro @Bool.not_false (And.intro @Nat.add_zero @Nat.zero_add)) (And.intro (And.intro @Nat.le_refl @true_and) (And.intro @and_true @Bool.false_eq_true))))) (And.intro (And.intro (And.intro (And.intro @List.drop_zero.{0} (And.intro @List.take_succ_cons.{0} @List.take_zero.{0})) (And.intro @List.drop_succ_cons.{0} (And.intro @beq_self_eq_true.{0} @Option.some.injEq.{0}))) (And.intro (And.intro @Int.toNat_natCast (And.intro @Nat.mul_one @Nat.mul_zero)) (And.intro @Nat.zero_mul (And.intro @Nat.one_mul @List.set_cons_zero.{0})))) (And.intro (And.intro (And.intro @List.set_cons_succ.{0} (And.intro @maskM_n @unmask_n)) (And.intro @keepL_n (And.intro @keepL_refl @keepL_app))) (And.intro (And.intro @ifo_pos (And.intro @selL_c @maskM_c)) (And.intro (And.intro @unmask_c @keepL_c) (And.intro @join_ss @keep1_refl)))))) (And.intro (And.intro (And.intro (And.intro (And.intro @at_0 (And.intro @at_j @set_0)) (And.intro @set_j (And.intro @add1_ne @imp_self))) (And.intro (And.intro @and_self (And.intro @spl_10 @spl_20)) (And.intro @spl_21 (And.intro @spl_30 @spl_31)))) (And.intro (And.intro (And.intro @spl_32 (And.intro @spl_40 @spl_41)) (And.intro @spl_42 (And.intro @spl_43 @spl_3r))) (And.intro (And.intro @spl_4r (And.intro @spl_2r @spl_5r)) (And.intro (And.intro @spl_50 @spl_51) (And.intro @spl_52 @spl_53))))) (And.intro (And.intro (And.intro (And.intro @spl_54 (And.intro @spl_6r @spl_60)) (And.intro @spl_61 (And.intro @spl_62 @spl_63))) (And.intro (And.intro @spl_64 (And.intro @spl_65 @spl_7r)) (And.intro @spl_70 (And.intro @spl_71 @spl_72)))) (And.intro (And.intro (And.intro @spl_73 (And.intro @spl_74 @spl_75)) (And.intro @spl_76 (And.intro @spl_8r @spl_80))) (And.intro (And.intro @spl_81 (And.intro @spl_82 @spl_83)) (And.intro (And.intro @spl_84 @spl_85) (And.intro @spl_86 @spl_87))))))))
end Go.Ab

namespace Go.Ab.C
open Go.Ab
def laws_rBig : AFn :=
 ⟨1, 6, [.tmp 2],
 .seq (.ops [(none, .mv 2 (.c (.B false)))])
 (.seq (.ops [(none, .mv 3 (.t 0)),
 (none, .len 4 (.t 3)),
 (none, .bin 5 .gtr (.t 4) (.c (.I 65536))),
 (none, .mv 2 (.t 5))])
 (.ret))⟩
end Go.Ab.C

namespace Go.Ab.K
open Go Go.Ab
theorem laws_rBig : prepF Go.Proofs.Try.prog F.laws_rBig = some C.laws_rBig := by kernel_rfl
end Go.Ab.K

namespace Go.Ab
open Go
section
variable {P : Program}

theorem evg_mono {g : GOp} {fr : Fr} {M : Mem} {K K' : Fr → Mem → Prop} (h : ∀ fr M, K fr M → K' fr M) (he : EvG P g fr M K) : EvG P g fr M K' :=
  evg_congr (fun _ _ => rfl) (fun _ _ hk => h _ _ hk) he

theorem evops_mono : ∀ {l : List GOp} {fr : Fr} {M : Mem} {K K' : Fr → Mem → Prop}, (∀ fr M, K fr M → K' fr M) → EvOps P l fr M K → EvOps P l fr M K'
  | [], _, _, _, _, h, he => h _ _ he
  | _ :: _, _, _, _, _, h, he => evg_mono (fun _ _ hk => evops_mono h hk) he

theorem evd_mono : ∀ {l : List DOp} {fr : Fr} {M : Mem} {lg : List (Option Nat)} {K K' : Fr → Mem → Prop}, (∀ fr M, K fr M → K' fr M) → EvD P l fr M lg K → EvD P l fr M lg K'
  | [], _, _, _, _, _, h, he => h _ _ he
  | d :: r, fr, M, lg, K, K', h, he => by
    simp only [EvD] at he ⊢
    split
    · rename_i h0
      rw [if_pos h0] at he
      exact evg_mono (fun _ _ hk => evd_mono h hk) he
    · rename_i h0
      rw [if_neg h0] at he
      split
      · rename_i h1
        rw [if_pos h1] at he
        exact evg_mono (fun _ _ hk => evd_mono h hk) he
      · rename_i h1
        rw [if_neg h1] at he
        exact evg_mono (fun _ _ hk => ⟨hk.1, evd_mono h hk.2⟩) he

theorem evc_mono : ∀ {c : ACode} {fr : Fr} {M : Mem} {Q Q' : AExit → Fr → Mem → Prop}, (∀ e fr M, Q e fr M → Q' e fr M) → EvC P c fr M Q → EvC P c fr M Q' := by
  intro c
  induction c with
  | skip => intro fr M Q Q' h he; exact h _ _ _ he
  | ops l => intro fr M Q Q' h he; exact evops_mono (h .normal) he
  | draw l => intro fr M Q Q' h he; exact evd_mono (h .normal) he
  | seq a b iha ihb =>
    intro fr M Q Q' h he
    simp only [EvC] at he ⊢
    refine iha (fun e fr M hh => ?_) he
    cases e with
    | normal => exact ihb h hh
    | exit i => exact h _ _ _ hh
    | ret => exact h _ _ _ hh
  | cond c a b iha ihb =>
    intro fr M Q Q' h he
    simp only [EvC] at he ⊢
    split
    · rename_i t ht
      rw [ht] at he
      exact ⟨fun e => iha h (he.1 e), fun e => ihb h (he.2 e)⟩
    · rename_i hne
      split at he
      · rename_i t ht; exact absurd ht (hne t)
      · exact he
  | block id a ih =>
    intro fr M Q Q' h he
    simp only [EvC] at he ⊢
    refine ih (fun e fr M hh => ?_) he
    cases e with
    | normal => exact h _ _ _ hh
    | exit i =>
      simp only [blockK] at hh ⊢
      split
      · rename_i hi; rw [if_pos hi] at hh; exact h _ _ _ hh
      · rename_i hi; rw [if_neg hi] at hh; exact h _ _ _ hh
    | ret => exact h _ _ _ hh
  | loop a ih =>
    intro fr M Q Q' h he
    simp only [EvC] at he ⊢
    obtain ⟨I, m, h0, hr⟩ := he
    refine ⟨I, m, h0, fun m fr M hI => ih (fun e fr M hh => ?_) (hr m fr M hI)⟩
    cases e with
    | normal => exact hh
    | exit i => exact h _ _ _ hh
    | ret => exact h _ _ _ hh
  | exit id => intro fr M Q Q' h he; exact h _ _ _ he
  | ret => intro fr M Q Q' h he; exact h _ _ _ he
  | bad => intro fr M Q Q' h he; exact he

def joinK (J : Fr → Mem → Prop) : Fr → Mem → Prop := fun fr M => J fr M

end

end Go.Ab

namespace Go.Ab.C
open Go.Ab
def spec_l1Cur_next : AFn :=
 ⟨1, 62, [.tmp 2],
 .seq (.ops [(none, .mv 2 (.c (.I 0)))])
 (.seq (.ops [(none, .mv 3 (.c (.I 0)))])
 (.seq (.seq (.draw [⟨(none, .mv 4 (.t 0)), [], []⟩,
 ⟨(none, .nilck 5 (.t 4)), [], []⟩,
 ⟨(none, .fieldAddr 6 (.t 5) 1), [], []⟩,
 ⟨(none, .load1 7 (.t 6)), [], []⟩,
 ⟨(none, .mv 8 (.t 0)), [], []⟩,
 ⟨(none, .nilck 9 (.t 8)), [], []⟩,
 ⟨(none, .fieldAddr 10 (.t 9) 0), [], []⟩,
 ⟨(none, .load1 11 (.t 10)), [], []⟩,
 ⟨(none, .len 12 (.t 11)), [], []⟩,
 ⟨(none, .bin 13 .lss (.t 7) (.t 12)), [], []⟩])
 (.cond (.t 13) (.draw [⟨(none, .mv 14 (.t 0)), [], []⟩,
 ⟨(none, .nilck 15 (.t 14)), [], []⟩,
 ⟨(none, .fieldAddr 16 (.t 15) 0), [], []⟩,
 ⟨(none, .load1 17 (.t 16)), [], []⟩,
 ⟨(none, .mv 18 (.t 0)), [], []⟩,
 ⟨(none, .nilck 19 (.t 18)), [], []⟩,
 ⟨(none, .fieldAddr 20 (.t 19) 1), [], []⟩,
 ⟨(none, .load1 21 (.t 20)), [], []⟩,
 ⟨(none, .idxS 22 1 (.t 17) (.t 21)), [], []⟩,
 ⟨(none, .load1 23 (.t 22)), [], []⟩,
 ⟨(none, .conv 24 .i64 (.t 23)), [], []⟩,
 ⟨(none, .mv 3 (.t 24)), [], []⟩])
 (.skip)))
 (.seq (.ops [(none, .mv 25 (.t 0)),
 (none, .nilck 26 (.t 25)),
 (none, .fieldAddr 27 (.t 26) 1),
 (none, .load1 28 (.t 27)),
 (none, .bin 29 .add (.t 28) (.c (.I 1))),
 (none, .nilck 30 (.t 25)),
 (none, .fieldAddr 31 (.t 30) 1),
 (none, .store 1 (.t 31) (.t 29))])
 (.seq (.ops [(none, .mv 32 (.t 0)),
 (none, .mv 33 (.t 0)),
 (none, .nilck 34 (.t 33)),
 (none, .fieldAddr 35 (.t 34) 2),
 (none, .load1 36 (.t 35)),
 (none, .bin 37 .mul (.t 36) (.c (.U 6364136223846793005))),
 (none, .mv 38 (.t 3)),
 (none, .conv 39 .u64 (.t 38)),
 (none, .bin 40 .add (.t 37) (.t 39)),
 (none, .bin 41 .add (.t 40) (.c (.U 462197))),
 (none, .nilck 42 (.t 32)),
 (none, .fieldAddr 43 (.t 42) 2),
 (none, .store 1 (.t 43) (.t 41))])
 (.seq (.seq (.draw [⟨(none, .mv 44 (.t 0)), [], []⟩,
 ⟨(none, .nilck 45 (.t 44)), [], []⟩,
 ⟨(none, .fieldAddr 46 (.t 45) 1), [], []⟩,
 ⟨(none, .load1 47 (.t 46)), [], []⟩,
 ⟨(none, .mv 48 (.t 0)), [], []⟩,
 ⟨(none, .nilck 49 (.t 48)), [], []⟩,
 ⟨(none, .fieldAddr 50 (.t 49) 0), [], []⟩,
 ⟨(none, .load1 51 (.t 50)), [], []⟩,
 ⟨(none, .len 52 (.t 51)), [], []⟩,
 ⟨(none, .bin 53 .leq (.t 47) (.t 52)), [], []⟩])
 (.cond (.t 53) (.seq (.ops [(none, .mv 54 (.t 3)),
 (none, .mv 2 (.t 54))])
 (.ret))
 (.skip)))
 (.seq (.ops [(none, .mv 55 (.t 0)),
 (none, .nilck 56 (.t 55)),
 (none, .fieldAddr 57 (.t 56) 2),
 (none, .load1 58 (.t 57)),
 (none, .bin 59 .shr (.t 58) (.c (.U 40))),
 (none, .bin 60 .and (.t 59) (.c (.U 255))),
 (none, .conv 61 .i64 (.t 60)),
 (none, .mv 2 (.t 61))])
 (.ret)))))))⟩
def spec_l1Cur_pick : AFn :=
 ⟨2, 20, [.tmp 4],
 .seq (.ops [(none, .mv 4 (.c (.I 0)))])
 (.seq (.seq (.ops [(none, .mv 6 (.t 1)),
 (none, .bin 7 .leq (.t 6) (.c (.I 1)))])
 (.cond (.t 7) (.seq (.ops [(none, .mv 4 (.c (.I 0)))])
 (.ret))
 (.skip)))
 (.seq (.ops [(none, .mv 8 (.t 0)),
 (none, .call (some 9) F.spec_l1Cur_next [(.t 8)]),
 (none, .mv 5 (.t 9))])
 (.seq (.seq (.ops [(none, .mv 10 (.t 1)),
 (none, .bin 11 .gtr (.t 10) (.c (.I 200)))])
 (.cond (.t 11) (.ops [(none, .mv 12 (.t 5)),
 (none, .bin 13 .mul (.t 12) (.c (.I 256))),
 (none, .mv 14 (.t 0)),
 (none, .call (some 15) F.spec_l1Cur_next [(.t 14)]),
 (none, .bin 16 .add (.t 13) (.t 15)),
 (none, .mv 5 (.t 16))])
 (.skip)))
 (.seq (.ops [(none, .mv 17 (.t 5)),
 (none, .mv 18 (.t 1)),
 (none, .bin 19 .rem (.t 17) (.t 18)),
 (none, .mv 4 (.t 19))])
 (.ret)))))⟩
def spec_l1Cur_one : AFn :=
 ⟨2, 9, [.tmp 4],
 .seq (.ops [(none, .mv 4 (.c (.B false)))])
 (.seq (.ops [(none, .mv 5 (.t 0)),
 (none, .mv 6 (.t 1)),
 (none, .call (some 7) F.spec_l1Cur_pick [(.t 5), (.t 6)]),
 (none, .bin 8 .eql (.t 7) (.c (.I 0))),
 (none, .mv 4 (.t 8))])
 (.ret))⟩
def spec_l1Cur_among : AFn :=
 ⟨2, 12, [.tmp 4],
 .seq (.ops [(none, .mv 4 (.c (.I 0)))])
 (.seq (.ops [(none, .mv 5 (.t 1)),
 (none, .mv 6 (.t 0)),
 (none, .mv 7 (.t 1)),
 (none, .len 8 (.t 7)),
 (none, .call (some 9) F.spec_l1Cur_pick [(.t 6), (.t 8)]),
 (none, .idxS 10 1 (.t 5) (.t 9)),
 (none, .load1 11 (.t 10)),
 (none, .mv 4 (.t 11))])
 (.ret))⟩
end Go.Ab.C

namespace Go.Ab.K
open Go Go.Ab
theorem spec_l1Cur_next : prepF Go.Proofs.Try.prog F.spec_l1Cur_next = some C.spec_l1Cur_next := by kernel_rfl
theorem spec_l1Cur_pick : prepF Go.Proofs.Try.prog F.spec_l1Cur_pick = some C.spec_l1Cur_pick := by kernel_rfl
theorem spec_l1Cur_one : prepF Go.Proofs.Try.prog F.spec_l1Cur_one = some C.spec_l1Cur_one := by kernel_rfl
theorem spec_l1Cur_among : prepF Go.Proofs.Try.prog F.spec_l1Cur_among = some C.spec_l1Cur_among := by kernel_rfl
end Go.Ab.K

namespace Go.Ab.C
open Go.Ab
end Go.Ab.C

namespace Go.Ab.K
open Go Go.Ab
end Go.Ab.K

namespace Go.Ab.C
open Go.Ab
end Go.Ab.C

namespace Go.Ab.K
open Go Go.Ab
end Go.Ab.K

namespace Go.Ab
noncomputable abbrev PG : Program := Go.Proofs.Try.prog
end Go.Ab

namespace Go.Ab
open Go

def IntsV (N : Mem) (v : LV) (l : List Int) : Prop := (v = .nil ∧ l = []) ∨ ∃ t o, v = .ref t o l.length ∧ Ints N t o l
def SlI (N : Mem) (v : LV) (l : List Int) : Prop := (v = .nil ∧ l = []) ∨ ∃ t ex, v = .ref t 0 l.length ∧ Live N t (.row (intL (l ++ ex)) true 1)
def Off : LV → Nat → Prop
  | .ref t _ _, u => u ≠ t
  | _, _ => True
def Newer (M : Mem) (v : LV) : Prop := ∀ u, u < M.length → Off v u

theorem Live.hasL {M : Mem} {t e : Nat} {vs ex : List LV} {w : Bool} (h : Live M t (.row (vs ++ ex) w e)) : Has M t 0 vs := ⟨vs ++ ex, h.row, by simp, by simp⟩
theorem SlI.v {N : Mem} {v : LV} {l : List Int} (h : SlI N v l) : IntsV N v l := by
  rcases h with h | ⟨t, ex, h1, h2⟩
  · exact .inl h
  · rw [intL_append] at h2; exact .inr ⟨t, 0, h1, h2.hasL⟩
theorem IntsV.pre {M N : Mem} {v : LV} {l : List Int} (h : IntsV M v l) (hp : Pre M N) : IntsV N v l := by
  rcases h with h | ⟨t, o, h1, h2⟩
  · exact .inl h
  · exact .inr ⟨t, o, h1, h2.pre hp⟩
theorem SlI.pre {M N : Mem} {v : LV} {l : List Int} (h : SlI M v l) (hp : Pre M N) : SlI N v l := by
  rcases h with h | ⟨t, ex, h1, h2⟩
  · exact .inl h
  · exact .inr ⟨t, ex, h1, h2.pre hp⟩
theorem SlI.nil {N : Mem} : SlI N .nil [] := .inl ⟨rfl, rfl⟩
theorem IntsV.nil {N : Mem} : IntsV N .nil [] := .inl ⟨rfl, rfl⟩
theorem SlI.of {N : Mem} {t : Nat} {l : List Int} (h : Live N t (.row (intL l) true 1)) : SlI N (.ref t 0 l.length) l := .inr ⟨t, [], rfl, by simpa using h⟩
theorem Newer.nil {M : Mem} : Newer M .nil := fun _ _ => trivial
theorem Newer.of {M : Mem} {t o n : Nat} (h : M.length ≤ t) : Newer M (.ref t o n) := fun u hu => by show u ≠ t; omega

def marks (k : Int) (n : Nat) : List Int := (List.range n).map fun (i : Nat) => k + (i : Int)
def Marked (M : Mem) (v : LV) (k : Int) (n : Nat) (r : LV) (N : Mem) : Prop := r = .I (k + n) ∧ SlI N v (marks k n) ∧ N.length = M.length ∧ ∀ u, Off v u → N[u]? = M[u]?

end Go.Ab

namespace Go.Ab.C
open Go.Ab
end Go.Ab.C

namespace Go.Ab.K
open Go Go.Ab
end Go.Ab.K

namespace Go.Ab
open Go

end Go.Ab

namespace Go.Ab
open Go

def CellsV (N : Mem) (v : LV) (l : List Cell) : Prop := (v = .nil ∧ l = []) ∨ ∃ t o, v = .ref t o l.length ∧ Tri N t o l
def SlC (N : Mem) (v : LV) (l : List Cell) : Prop := (v = .nil ∧ l = []) ∨ ∃ t ex, v = .ref t 0 l.length ∧ Live N t (.row (triL (l ++ ex)) true 3)
theorem SlC.v {N : Mem} {v : LV} {l : List Cell} (h : SlC N v l) : CellsV N v l := by
  rcases h with h | ⟨t, ex, h1, h2⟩
  · exact .inl h
  · rw [triL_append] at h2; exact .inr ⟨t, 0, h1, h2.hasL⟩
theorem CellsV.pre {M N : Mem} {v : LV} {l : List Cell} (h : CellsV M v l) (hp : Pre M N) : CellsV N v l := by
  rcases h with h | ⟨t, o, h1, h2⟩
  · exact .inl h
  · exact .inr ⟨t, o, h1, h2.pre hp⟩
theorem SlC.pre {M N : Mem} {v : LV} {l : List Cell} (h : SlC M v l) (hp : Pre M N) : SlC N v l := by
  rcases h with h | ⟨t, ex, h1, h2⟩
  · exact .inl h
  · exact .inr ⟨t, ex, h1, h2.pre hp⟩
theorem SlC.nil {N : Mem} : SlC N .nil [] := .inl ⟨rfl, rfl⟩
theorem CellsV.nil {N : Mem} : CellsV N .nil [] := .inl ⟨rfl, rfl⟩
theorem SlC.of {N : Mem} {t : Nat} {l : List Cell} (h : Live N t (.row (triL l) true 3)) : SlC N (.ref t 0 l.length) l := .inr ⟨t, [], rfl, by simpa using h⟩
theorem CellsV.of {N : Mem} {t o : Nat} {l : List Cell} (h : Tri N t o l) : CellsV N (.ref t o l.length) l := .inr ⟨t, o, rfl, h⟩

def marks3 (k : Int) (n : Nat) : List Cell := (List.range n).map fun (i : Nat) => ⟨k + 3 * (i : Int), k + 3 * (i : Int) + 1, k + 3 * (i : Int) + 2⟩
def Marked3 (M : Mem) (v : LV) (k : Int) (n : Nat) (r : LV) (N : Mem) : Prop := r = .I (k + 3 * n) ∧ SlC N v (marks3 k n) ∧ N.length = M.length ∧ ∀ u, Off v u → N[u]? = M[u]?

def cellSet (c : Cell) (j : Nat) (v : Int) : Cell := match j with | 0 => ⟨v, c.b, c.c⟩ | 1 => ⟨c.a, v, c.c⟩ | _ => ⟨c.a, c.b, v⟩
end Go.Ab

namespace Go.Ab.C
open Go.Ab
end Go.Ab.C

namespace Go.Ab.K
open Go Go.Ab
end Go.Ab.K

namespace Go.Ab.C
open Go.Ab
end Go.Ab.C

namespace Go.Ab.K
open Go Go.Ab
end Go.Ab.K

namespace Go.Ab.C
open Go.Ab
end Go.Ab.C

namespace Go.Ab.K
open Go Go.Ab
end Go.Ab.K

namespace Go.Ab.C
open Go.Ab
end Go.Ab.C

namespace Go.Ab.K
open Go Go.Ab
end Go.Ab.K

namespace Go.Ab.C
open Go.Ab
end Go.Ab.C

namespace Go.Ab.K
open Go Go.Ab
end Go.Ab.K

namespace Go.Ab
open Go

def PreV (v : LV) (M N : Mem) : Prop := M.length ≤ N.length ∧ ∀ u, u < M.length → Off v u → N[u]? = M[u]?
def Apart (v w : LV) : Prop := ∀ t o n, w = .ref t o n → Off v t
theorem PreV.live {v : LV} {M N : Mem} {t : Nat} {b : Blk} (hp : PreV v M N) (h : Live M t b) (ho : Off v t) : Live N t b := by unfold Live; rw [hp.2 t h.lt ho]; exact h
theorem PreV.has {v : LV} {M N : Mem} {t o : Nat} {vs : List LV} (hp : PreV v M N) (h : Has M t o vs) (ho : Off v t) : Has N t o vs := by
  obtain ⟨row, h1, h2⟩ := h
  refine ⟨row, ?_, h2⟩
  unfold getRow at *
  rw [hp.2 t (row_lt (M := M) (by unfold getRow; exact h1)) ho]; exact h1
theorem Marked.pre {M N : Mem} {v r : LV} {k : Int} {n : Nat} (h : Marked M v k n r N) : PreV v M N := ⟨by rw [h.2.2.1]; exact Nat.le_refl _, fun u _ ho => h.2.2.2 u ho⟩
theorem Marked3.pre {M N : Mem} {v r : LV} {k : Int} {n : Nat} (h : Marked3 M v k n r N) : PreV v M N := ⟨by rw [h.2.2.1]; exact Nat.le_refl _, fun u _ ho => h.2.2.2 u ho⟩
theorem PreV.pre {M0 M N : Mem} {v : LV} (hp : PreV v M N) (h : Pre M0 M) (hv : Newer M0 v) : Pre M0 N := ⟨Nat.le_trans h.1 hp.1, fun u hu => by rw [hp.2 u (Nat.lt_of_lt_of_le hu h.1) (hv u hu)]; exact h.2 u hu⟩
def Older (M : Mem) (v : LV) : Prop := ∀ t o n, v = .ref t o n → t < M.length
theorem SlI.older {M : Mem} {v : LV} {l : List Int} (h : SlI M v l) : Older M v := fun t o n e => by
  rcases h with ⟨rfl, _⟩ | ⟨t', ex, h1, h2⟩
  · cases e
  · rw [h1] at e; cases e; exact h2.lt
theorem SlC.older {M : Mem} {v : LV} {l : List Cell} (h : SlC M v l) : Older M v := fun t o n e => by
  rcases h with ⟨rfl, _⟩ | ⟨t', ex, h1, h2⟩
  · cases e
  · rw [h1] at e; cases e; exact h2.lt
theorem CellsV.older {M : Mem} {v : LV} {l : List Cell} (h : CellsV M v l) : Older M v := fun t o n e => by
  rcases h with ⟨rfl, _⟩ | ⟨t', o', h1, h2⟩
  · cases e
  · rw [h1] at e; cases e; exact h2.lt
theorem IntsV.older {M : Mem} {v : LV} {l : List Int} (h : IntsV M v l) : Older M v := fun t o n e => by
  rcases h with ⟨rfl, _⟩ | ⟨t', o', h1, h2⟩
  · cases e
  · rw [h1] at e; cases e; exact h2.lt
theorem Newer.apart {M : Mem} {v w : LV} (hv : Newer M v) (hw : Older M w) : Apart v w := fun t o n e => hv t (hw t o n e)
theorem Apart.symm {v w : LV} (h : Apart v w) : Apart w v := fun t o n e => by
  cases w with
  | ref t' o' n' => have := h t' o' n' rfl; subst e; exact fun e => this e.symm
  | _ => trivial
theorem Newer.mono {M N : Mem} {v : LV} (h : Newer N v) (hp : Pre M N) : Newer M v := fun u hu => h u (Nat.lt_of_lt_of_le hu hp.1)

def IntsRes (M : Mem) (r : Option (List Int)) (v : LV) (N : Mem) : Prop := ∃ w, v = .tup [w, .B r.isSome] ∧ SlI N w (r.getD []) ∧ Newer M w ∧ Pre M N
def CellsRes (M : Mem) (r : Option (List Cell)) (v : LV) (N : Mem) : Prop := ∃ w, v = .tup [w, .B r.isSome] ∧ SlC N w (r.getD []) ∧ Newer M w ∧ Pre M N
theorem callN_of {P : Program} {f : FuncId} {args : List LV} {M : Mem} {n e : Nat} {vs : List LV} {A : LV → Mem → Prop} (h : CallsTo P f args M (.ref M.length 0 n) (M ++ [some (.row vs true e)]))
    (hA : ∀ (t : Nat) (N : Mem), M.length ≤ t → Pre M N → Live N t (.row vs true e) → A (.ref t 0 n) N) : callK P f args M A := callK_of h (hA _ _ (Nat.le_refl _) (Pre.app _ _) Live.new)

theorem callH_of {P : Program} {f : FuncId} {args : List LV} {M : Mem} {n e : Nat} {a b c : LV} {vs : List LV} {A : LV → Mem → Prop} (h : CallsTo P f args M (.agg [a, b, c, .ref M.length 0 n]) (M ++ [some (.row vs true e)]))
    (hA : ∀ (t : Nat) (N : Mem), M.length ≤ t → Pre M N → Live N t (.row vs true e) → A (.agg [a, b, c, .ref t 0 n]) N) : callK P f args M A := callK_of h (hA _ _ (Nat.le_refl _) (Pre.app _ _) Live.new)
theorem Live.tri {M : Mem} {t k : Nat} {w : Bool} {cs ex : List Cell} (h : Live M t (.row (triL (cs ++ ex)) w 3)) (hk : k < cs.length) : getCells M t (k * 3) 3 = some (cs.getD k default).row := by
  rw [triL_append] at h
  have := Tri.get (cs := cs) h.hasL hk
  rwa [Nat.zero_add] at this
theorem Live.tri0 {M : Mem} {t k : Nat} {w : Bool} {cs : List Cell} (h : Live M t (.row (triL cs) w 3)) (hk : k < cs.length) : getCells M t (k * 3) 3 = some (cs.getD k default).row := Live.tri (ex := []) (by simpa using h) hk
end Go.Ab

namespace Go.Ab
open Go

def ShdRes (M : Mem) (x y z : Int) (tp fr sd : List Int) (v : LV) (N : Mem) : Prop := ∃ a b c : Nat, v = .agg [.I x, .I y, .I z, .ref a 0 tp.length, .ref b 0 fr.length, .ref c 0 sd.length] ∧ M.length ≤ a ∧ M.length ≤ b ∧ M.length ≤ c ∧ a ≠ b ∧ a ≠ c ∧ b ≠ c ∧
  Live N a (.row (intL tp) true 1) ∧ Live N b (.row (intL fr) true 1) ∧ Live N c (.row (intL sd) true 1) ∧ Pre M N
end Go.Ab

namespace Go.Ab.C
open Go.Ab
end Go.Ab.C

namespace Go.Ab.K
open Go Go.Ab
end Go.Ab.K

namespace Go.Ab.C
open Go.Ab
def cmp_isNaN_int : AFn :=
 ⟨1, 6, [.tmp 2],
 .seq (.ops [(none, .mv 2 (.c (.B false)))])
 (.seq (.ops [(none, .mv 3 (.t 0)),
 (none, .mv 4 (.t 0)),
 (none, .bin 5 .neq (.t 3) (.t 4)),
 (none, .mv 2 (.t 5))])
 (.ret))⟩
def cmp_Compare_int : AFn :=
 ⟨2, 20, [.tmp 4],
 .seq (.ops [(none, .mv 4 (.c (.I 0)))])
 (.seq (.ops [(none, .mv 7 (.t 0)),
 (none, .call (some 8) F.cmp_isNaN_int [(.t 7)]),
 (none, .mv 5 (.t 8))])
 (.seq (.ops [(none, .mv 9 (.t 1)),
 (none, .call (some 10) F.cmp_isNaN_int [(.t 9)]),
 (none, .mv 6 (.t 10))])
 (.seq (.seq (.ops [(none, .mv 11 (.t 5))])
 (.cond (.t 11) (.seq (.seq (.ops [(none, .mv 12 (.t 6))])
 (.cond (.t 12) (.seq (.ops [(none, .mv 4 (.c (.I 0)))])
 (.ret))
 (.skip)))
 (.seq (.ops [(none, .mv 4 (.c (.I (-1))))])
 (.ret)))
 (.skip)))
 (.seq (.seq (.ops [(none, .mv 13 (.t 6))])
 (.cond (.t 13) (.seq (.ops [(none, .mv 4 (.c (.I 1)))])
 (.ret))
 (.skip)))
 (.seq (.seq (.ops [(none, .mv 14 (.t 0)),
 (none, .mv 15 (.t 1)),
 (none, .bin 16 .lss (.t 14) (.t 15))])
 (.cond (.t 16) (.seq (.ops [(none, .mv 4 (.c (.I (-1))))])
 (.ret))
 (.skip)))
 (.seq (.seq (.ops [(none, .mv 17 (.t 0)),
 (none, .mv 18 (.t 1)),
 (none, .bin 19 .gtr (.t 17) (.t 18))])
 (.cond (.t 19) (.seq (.ops [(none, .mv 4 (.c (.I 1)))])
 (.ret))
 (.skip)))
 (.seq (.ops [(none, .mv 4 (.c (.I 0)))])
 (.ret))))))))⟩
def slices_Compare_Sint_int : AFn :=
 ⟨2, 36, [.tmp 4],
 .seq (.ops [(none, .mv 4 (.c (.I 0)))])
 (.seq (.seq (.ops [(none, .mv 9 (.t 0)),
 (none, .len 10 (.t 9)),
 (none, .mv 11 (.c (.I 0)))])
 (.block 0 (.loop (.seq (.ops [(none, .bin 12 .lss (.t 11) (.t 10))])
 (.seq (.cond (.t 12) (.skip)
 (.exit 0))
 (.seq (.block 1 (.seq (.ops [(none, .mv 13 (.t 11)),
 (none, .idxS 14 1 (.t 9) (.t 11)),
 (none, .load1 15 (.t 14)),
 (none, .mv 5 (.t 13)),
 (none, .mv 6 (.t 15))])
 (.seq (.seq (.ops [(none, .mv 16 (.t 5)),
 (none, .mv 17 (.t 1)),
 (none, .len 18 (.t 17)),
 (none, .bin 19 .geq (.t 16) (.t 18))])
 (.cond (.t 19) (.seq (.ops [(none, .mv 4 (.c (.I 1)))])
 (.ret))
 (.skip)))
 (.seq (.ops [(none, .mv 20 (.t 1)),
 (none, .mv 21 (.t 5)),
 (none, .idxS 22 1 (.t 20) (.t 21)),
 (none, .load1 23 (.t 22)),
 (none, .mv 7 (.t 23))])
 (.seq (.ops [(none, .mv 24 (.t 6)),
 (none, .mv 25 (.t 7)),
 (none, .call (some 26) F.cmp_Compare_int [(.t 24), (.t 25)]),
 (none, .mv 8 (.t 26))])
 (.seq (.ops [(none, .mv 27 (.t 8)),
 (none, .bin 28 .neq (.t 27) (.c (.I 0)))])
 (.cond (.t 28) (.seq (.ops [(none, .mv 29 (.t 8)),
 (none, .mv 4 (.t 29))])
 (.ret))
 (.skip))))))))
 (.ops [(none, .bin 30 .add (.t 11) (.c (.I 1))),
 (none, .mv 11 (.t 30))])))))))
 (.seq (.seq (.ops [(none, .mv 31 (.t 0)),
 (none, .len 32 (.t 31)),
 (none, .mv 33 (.t 1)),
 (none, .len 34 (.t 33)),
 (none, .bin 35 .lss (.t 32) (.t 34))])
 (.cond (.t 35) (.seq (.ops [(none, .mv 4 (.c (.I (-1))))])
 (.ret))
 (.skip)))
 (.seq (.ops [(none, .mv 4 (.c (.I 0)))])
 (.ret))))⟩
def impl_within : AFn :=
 ⟨3, 15, [.tmp 6],
 .seq (.ops [(none, .mv 6 (.c (.B false)))])
 (.seq (.ops [(none, .mv 7 (.t 0)),
 (none, .mv 8 (.t 1)),
 (none, .bin 9 .geq (.t 7) (.t 8)),
 (none, .mv 10 (.t 9)),
 (some (10, true), .mv 11 (.t 0)),
 (some (10, true), .mv 12 (.t 2)),
 (some (10, true), .bin 13 .leq (.t 11) (.t 12)),
 (none, .pick 14 (.t 10) (.t 13) (.c (.B false))),
 (none, .mv 6 (.t 14))])
 (.ret))⟩
def impl_Heap_box : AFn :=
 ⟨1, 10, [.cellN 2 3],
 .seq (.ops [(none, .box 1 (.t 0)),
 (none, .alloc 2 [(.I 0), (.I 0), (.I 0)])])
 (.seq (.ops [(none, .fieldAddr 3 (.t 1) 0),
 (none, .load1 4 (.t 3)),
 (none, .fieldAddr 5 (.t 1) 1),
 (none, .load1 6 (.t 5)),
 (none, .fieldAddr 7 (.t 1) 2),
 (none, .load1 8 (.t 7)),
 (none, .build 9 [(.I 0), (.I 0), (.I 0)] [(0, 1, (.t 4)), (1, 1, (.t 6)), (2, 1, (.t 8))]),
 (none, .store 3 (.t 2) (.t 9))])
 (.ret))⟩
def impl_box_valid : AFn :=
 ⟨1, 16, [.tmp 2],
 .seq (.ops [(none, .box 1 (.t 0)),
 (none, .mv 2 (.c (.B false)))])
 (.seq (.ops [(none, .idxA 3 3 1 (.t 1) (.c (.I 0))),
 (none, .load1 4 (.t 3)),
 (none, .call (some 5) F.impl_within [(.t 4), (.c (.I 1)), (.c (.I 4))]),
 (none, .mv 6 (.t 5)),
 (some (6, true), .idxA 7 3 1 (.t 1) (.c (.I 1))),
 (some (6, true), .load1 8 (.t 7)),
 (some (6, true), .call (some 9) F.impl_within [(.t 8), (.c (.I 1)), (.c (.I 4))]),
 (none, .pick 10 (.t 6) (.t 9) (.c (.B false))),
 (none, .mv 11 (.t 10)),
 (some (11, true), .idxA 12 3 1 (.t 1) (.c (.I 2))),
 (some (11, true), .load1 13 (.t 12)),
 (some (11, true), .call (some 14) F.impl_within [(.t 13), (.c (.I 1)), (.c (.I 4))]),
 (none, .pick 15 (.t 11) (.t 14) (.c (.B false))),
 (none, .mv 2 (.t 15))])
 (.ret))⟩
def impl_box_has : AFn :=
 ⟨2, 27, [.tmp 4],
 .seq (.ops [(none, .box 2 (.t 0)),
 (none, .box 3 (.t 1)),
 (none, .mv 4 (.c (.B false)))])
 (.seq (.ops [(none, .idxA 5 3 1 (.t 3) (.c (.I 0))),
 (none, .load1 6 (.t 5)),
 (none, .idxA 7 3 1 (.t 2) (.c (.I 0))),
 (none, .load1 8 (.t 7)),
 (none, .bin 9 .sub (.t 8) (.c (.I 1))),
 (none, .call (some 10) F.impl_within [(.t 6), (.c (.I 0)), (.t 9)]),
 (none, .mv 11 (.t 10)),
 (some (11, true), .idxA 12 3 1 (.t 3) (.c (.I 1))),
 (some (11, true), .load1 13 (.t 12)),
 (some (11, true), .idxA 14 3 1 (.t 2) (.c (.I 1))),
 (some (11, true), .load1 15 (.t 14)),
 (some (11, true), .bin 16 .sub (.t 15) (.c (.I 1))),
 (some (11, true), .call (some 17) F.impl_within [(.t 13), (.c (.I 0)), (.t 16)]),
 (none, .pick 18 (.t 11) (.t 17) (.c (.B false))),
 (none, .mv 19 (.t 18)),
 (some (19, true), .idxA 20 3 1 (.t 3) (.c (.I 2))),
 (some (19, true), .load1 21 (.t 20)),
 (some (19, true), .idxA 22 3 1 (.t 2) (.c (.I 2))),
 (some (19, true), .load1 23 (.t 22)),
 (some (19, true), .bin 24 .sub (.t 23) (.c (.I 1))),
 (some (19, true), .call (some 25) F.impl_within [(.t 21), (.c (.I 0)), (.t 24)]),
 (none, .pick 26 (.t 19) (.t 25) (.c (.B false))),
 (none, .mv 4 (.t 26))])
 (.ret))⟩
def impl_compareCells : AFn :=
 ⟨2, 8, [.tmp 4],
 .seq (.ops [(none, .box 2 (.t 0)),
 (none, .box 3 (.t 1)),
 (none, .mv 4 (.c (.I 0)))])
 (.seq (.draw [⟨(none, .slA 5 3 1 (.t 2) none none), [], []⟩,
 ⟨(none, .slA 6 3 1 (.t 3) none none), [], []⟩,
 ⟨(none, .call (some 7) F.slices_Compare_Sint_int [(.t 5), (.t 6)]), [], []⟩,
 ⟨(none, .mv 4 (.t 7)), [], []⟩])
 (.ret))⟩
def impl_IsHeap : AFn :=
 ⟨1, 38, [.tmp 2],
 .seq (.ops [(none, .box 1 (.t 0)),
 (none, .mv 2 (.c (.B false)))])
 (.seq (.seq (.ops [(none, .loadN 5 4 (.t 1)),
 (none, .call (some 6) F.impl_Heap_box [(.t 5)]),
 (none, .call (some 7) F.impl_box_valid [(.t 6)]),
 (none, .un 8 .not (.t 7))])
 (.cond (.t 8) (.seq (.ops [(none, .mv 2 (.c (.B false)))])
 (.ret))
 (.skip)))
 (.seq (.seq (.ops [(none, .fieldAddr 9 (.t 1) 3),
 (none, .load1 10 (.t 9)),
 (none, .len 11 (.t 10)),
 (none, .mv 12 (.c (.I 0)))])
 (.block 0 (.loop (.seq (.ops [(none, .bin 13 .lss (.t 12) (.t 11))])
 (.seq (.cond (.t 13) (.skip)
 (.exit 0))
 (.seq (.block 1 (.seq (.ops [(none, .mv 14 (.t 12)),
 (none, .idxS 15 3 (.t 10) (.t 12)),
 (none, .loadN 16 3 (.t 15)),
 (none, .alloc 4 [(.I 0), (.I 0), (.I 0)]),
 (none, .mv 3 (.t 14)),
 (none, .store 3 (.t 4) (.t 16))])
 (.seq (.draw [⟨(none, .loadN 17 4 (.t 1)), [], []⟩,
 ⟨(none, .loadN 19 3 (.t 4)), [], []⟩,
 ⟨(none, .call (some 18) F.impl_Heap_box [(.t 17)]), [], [1]⟩,
 ⟨(none, .call (some 20) F.impl_box_has [(.t 18), (.t 19)]), [], []⟩,
 ⟨(none, .un 21 .not (.t 20)), [], []⟩,
 ⟨(none, .mv 22 (.t 21)), [], []⟩,
 ⟨(some (22, false), .mv 23 (.t 3)), [], []⟩,
 ⟨(some (22, false), .bin 24 .gtr (.t 23) (.c (.I 0))), [], []⟩,
 ⟨(some (22, false), .mv 25 (.t 24)), [], []⟩,
 ⟨(some (25, true), .fieldAddr 26 (.t 1) 3), [], []⟩,
 ⟨(some (25, true), .load1 27 (.t 26)), [], []⟩,
 ⟨(some (25, true), .mv 28 (.t 3)), [], []⟩,
 ⟨(some (25, true), .bin 29 .sub (.t 28) (.c (.I 1))), [], []⟩,
 ⟨(some (25, true), .idxS 30 3 (.t 27) (.t 29)), [], []⟩,
 ⟨(some (25, true), .loadN 31 3 (.t 30)), [], []⟩,
 ⟨(some (25, true), .loadN 32 3 (.t 4)), [], []⟩,
 ⟨(some (25, true), .call (some 33) F.impl_compareCells [(.t 31), (.t 32)]), [], []⟩,
 ⟨(some (25, true), .bin 34 .geq (.t 33) (.c (.I 0))), [], []⟩,
 ⟨(some (22, false), .pick 35 (.t 25) (.t 34) (.c (.B false))), [], []⟩,
 ⟨(none, .pick 36 (.t 22) (.c (.B true)) (.t 35)), [], []⟩])
 (.cond (.t 36) (.seq (.ops [(none, .mv 2 (.c (.B false)))])
 (.ret))
 (.skip)))))
 (.ops [(none, .bin 37 .add (.t 12) (.c (.I 1))),
 (none, .mv 12 (.t 37))])))))))
 (.seq (.ops [(none, .mv 2 (.c (.B true)))])
 (.ret))))⟩
end Go.Ab.C

namespace Go.Ab.K
open Go Go.Ab
theorem cmp_isNaN_int : prepF Go.Proofs.Try.prog F.cmp_isNaN_int = some C.cmp_isNaN_int := by kernel_rfl
theorem cmp_Compare_int : prepF Go.Proofs.Try.prog F.cmp_Compare_int = some C.cmp_Compare_int := by kernel_rfl
theorem slices_Compare_Sint_int : prepF Go.Proofs.Try.prog F.slices_Compare_Sint_int = some C.slices_Compare_Sint_int := by kernel_rfl
theorem impl_within : prepF Go.Proofs.Try.prog F.impl_within = some C.impl_within := by kernel_rfl
theorem impl_Heap_box : prepF Go.Proofs.Try.prog F.impl_Heap_box = some C.impl_Heap_box := by kernel_rfl
theorem impl_box_valid : prepF Go.Proofs.Try.prog F.impl_box_valid = some C.impl_box_valid := by kernel_rfl
theorem impl_box_has : prepF Go.Proofs.Try.prog F.impl_box_has = some C.impl_box_has := by kernel_rfl
theorem impl_compareCells : prepF Go.Proofs.Try.prog F.impl_compareCells = some C.impl_compareCells := by kernel_rfl
theorem impl_IsHeap : prepF Go.Proofs.Try.prog F.impl_IsHeap = some C.impl_IsHeap := by kernel_rfl
end Go.Ab.K

namespace Go.Ab

def Sides (x y z : Int) : Prop := (1 ≤ x ∧ x ≤ 4) ∧ (1 ≤ y ∧ y ≤ 4) ∧ (1 ≤ z ∧ z ≤ 4)
instance (x y z : Int) : Decidable (Sides x y z) := by unfold Sides; infer_instance
def Cell.lt (p q : Cell) : Prop := p.a < q.a ∨ (p.a = q.a ∧ (p.b < q.b ∨ (p.b = q.b ∧ p.c < q.c)))
instance (p q : Cell) : Decidable (p.lt q) := by unfold Cell.lt; infer_instance
def Cell.inBox (x y z : Int) (c : Cell) : Prop := (0 ≤ c.a ∧ c.a ≤ x - 1) ∧ (0 ≤ c.b ∧ c.b ≤ y - 1) ∧ (0 ≤ c.c ∧ c.c ≤ z - 1)
instance (x y z : Int) (c : Cell) : Decidable (c.inBox x y z) := by unfold Cell.inBox; infer_instance
def HeapOK (x y z : Int) (cs : List Cell) : Prop :=
  Sides x y z ∧ ∀ k, k < cs.length → (cs.getD k default).inBox x y z ∧ (0 < k → (cs.getD (k - 1) default).lt (cs.getD k default))
noncomputable instance (x y z : Int) (cs : List Cell) : Decidable (HeapOK x y z cs) := Classical.propDecidable _

def topStep (y : Int) (out : List Int) (c : Cell) : List Int := out.set (c.a * y + c.b).toNat (max (out.getD (c.a * y + c.b).toNat 0) (c.c + 1))
def topsOf (x y : Int) (cs : List Cell) : List Int := cs.foldl (topStep y) (List.replicate (x * y).toNat 0)

def apart (p q : Cell) : Int := max (p.a - q.a) (q.a - p.a) + max (p.b - q.b) (q.b - p.b) + max (p.c - q.c) (q.c - p.c)
def colOf (y p : Int) : Cell := ⟨p.tdiv y, p.tmod y, 0⟩
def nums (n : Nat) : List Int := (List.range n).map Int.ofNat
def nexts (x y p : Int) : List Int := (nums (x * y).toNat).filter fun q => decide (apart (colOf y p) (colOf y q) = 1)
def gap (a b : Int) : Int := max (a - b) (b - a)
def stepsOf (x y : Int) (ts : List Int) (p s : Int) : List Int := (nexts x y p).filter fun q => decide (gap (ts.getD q.toNat 0) (ts.getD p.toNat 0) ≤ s)

end Go.Ab
