/- Parts of the proof of FnTopWalksSaid: F C_LFnTopWalks K_LFnTopWalks Sa Sb Sc Sd Se Sw Sx C_El K_El. -/
import Derived.Test.YthgljdbfkojpeaaA3
import Derived.Test.YthgljdbfkojpeaaProg
import Derived.KernelRfl
import Derived.IntWalk
import Derived.Laws.Bits64
set_option linter.all false
/- The numbers of the program's functions, in this seat. -/
namespace Go.Ab.F
abbrev main_main : Nat := 0
abbrev gosem_cut : Nat := 1
abbrev gosem_cut_init : Nat := 2
abbrev laws_FnTopWalks : Nat := 3
abbrev laws_FnTurns : Nat := 4
abbrev laws_FnPieces : Nat := 5
abbrev laws_FnSights : Nat := 6
abbrev laws_FnFalling : Nat := 7
abbrev laws_FnHeapForms : Nat := 8
abbrev laws_rBig : Nat := 9
abbrev spec_DrawFirstTopWalk : Nat := 10
abbrev impl_FirstTopWalk : Nat := 11
abbrev spec_FirstTopWalk : Nat := 12
abbrev laws_rInts : Nat := 13
abbrev impl_TopDistance : Nat := 14
abbrev spec_TopDistance : Nat := 15
abbrev impl_LeastClimb : Nat := 16
abbrev spec_LeastClimb : Nat := 17
abbrev impl_LeastReach : Nat := 18
abbrev spec_LeastReach : Nat := 19
abbrev spec_DrawTopRegion : Nat := 20
abbrev impl_TopRegion : Nat := 21
abbrev spec_TopRegion : Nat := 22
abbrev impl_StepColumns : Nat := 23
abbrev spec_StepColumns : Nat := 24
abbrev spec_DrawWalkClimb : Nat := 25
abbrev impl_WalkClimb : Nat := 26
abbrev spec_WalkClimb : Nat := 27
abbrev spec_DrawCountRegions : Nat := 28
abbrev impl_CountRegions : Nat := 29
abbrev spec_CountRegions : Nat := 30
abbrev impl_TopHeights : Nat := 31
abbrev laws_rHas : Nat := 32
abbrev spec_DrawTurnHeap : Nat := 33
abbrev impl_TurnHeap : Nat := 34
abbrev spec_TurnHeap : Nat := 35
abbrev laws_rHeap : Nat := 36
abbrev spec_DrawTurnBehind : Nat := 37
abbrev impl_TurnBehind : Nat := 38
abbrev spec_TurnBehind : Nat := 39
abbrev spec_DrawTurnBack : Nat := 40
abbrev impl_TurnBack : Nat := 41
abbrev spec_TurnBack : Nat := 42
abbrev impl_TurnOrder : Nat := 43
abbrev spec_TurnOrder : Nat := 44
abbrev impl_SurfaceOf : Nat := 45
abbrev laws_vBig : Nat := 46
abbrev spec_DrawFitsAt : Nat := 47
abbrev impl_FitsAt : Nat := 48
abbrev spec_FitsAt : Nat := 49
abbrev spec_DrawPlacesFor : Nat := 50
abbrev laws_vCut : Nat := 51
abbrev impl_PlacesFor : Nat := 52
abbrev spec_PlacesFor : Nat := 53
abbrev spec_DrawBoxPiece : Nat := 54
abbrev impl_BoxPiece : Nat := 55
abbrev spec_BoxPiece : Nat := 56
abbrev spec_DrawPieceParity : Nat := 57
abbrev impl_PieceParity : Nat := 58
abbrev spec_PieceParity : Nat := 59
abbrev spec_DrawFreeParity : Nat := 60
abbrev impl_FreeParity : Nat := 61
abbrev spec_FreeParity : Nat := 62
abbrev laws_vCells : Nat := 63
abbrev impl_IsPiece : Nat := 64
abbrev spec_IsPiece : Nat := 65
abbrev impl_OtherCells : Nat := 66
abbrev laws_vIn : Nat := 67
abbrev impl_HasCube : Nat := 68
abbrev spec_DrawSightsOf : Nat := 69
abbrev impl_SightsOf : Nat := 70
abbrev spec_SightsOf : Nat := 71
abbrev impl_SkyLine : Nat := 72
abbrev spec_SkyLine : Nat := 73
abbrev spec_DrawPeaksOf : Nat := 74
abbrev impl_PeaksOf : Nat := 75
abbrev spec_PeaksOf : Nat := 76
abbrev impl_IsHeap : Nat := 77
abbrev impl_LevelCounts : Nat := 78
abbrev spec_LevelCounts : Nat := 79
abbrev spec_DrawCountSights : Nat := 80
abbrev impl_CountSights : Nat := 81
abbrev spec_CountSights : Nat := 82
abbrev laws_rSum : Nat := 83
abbrev impl_MirrorHeap : Nat := 84
abbrev spec_DrawDropHeap : Nat := 85
abbrev impl_DropHeap : Nat := 86
abbrev spec_DropHeap : Nat := 87
abbrev impl_FallSum : Nat := 88
abbrev spec_FallSum : Nat := 89
abbrev impl_StandingCubes : Nat := 90
abbrev spec_StandingCubes : Nat := 91
abbrev impl_HangingCubes : Nat := 92
abbrev spec_HangingCubes : Nat := 93
abbrev impl_SinkHeap : Nat := 94
abbrev spec_SinkHeap : Nat := 95
abbrev impl_LooseBottom : Nat := 96
abbrev spec_LooseBottom : Nat := 97
abbrev spec_DrawIsSettled : Nat := 98
abbrev impl_IsSettled : Nat := 99
abbrev spec_IsSettled : Nat := 100
abbrev laws_vHeap : Nat := 101
abbrev impl_ViewOf : Nat := 102
abbrev laws_vInts : Nat := 103
abbrev laws_vWithin : Nat := 104
abbrev impl_PartsOf : Nat := 105
abbrev spec_DrawMirrorHeap : Nat := 106
abbrev spec_MirrorHeap : Nat := 107
abbrev spec_OtherCells : Nat := 108
abbrev spec_DrawSwapSides : Nat := 109
abbrev impl_SwapSides : Nat := 110
abbrev spec_SwapSides : Nat := 111
abbrev spec_DrawJoinHeaps : Nat := 112
abbrev impl_JoinHeaps : Nat := 113
abbrev spec_JoinHeaps : Nat := 114
abbrev impl_CommonCubes : Nat := 115
abbrev spec_CommonCubes : Nat := 116
abbrev spec_DrawShiftHeap : Nat := 117
abbrev impl_ShiftHeap : Nat := 118
abbrev spec_ShiftHeap : Nat := 119
abbrev impl_CropHeap : Nat := 120
abbrev spec_CropHeap : Nat := 121
abbrev spec_DrawWidenHeap : Nat := 122
abbrev impl_WidenHeap : Nat := 123
abbrev spec_WidenHeap : Nat := 124
abbrev spec_DrawTopDistance : Nat := 125
abbrev impl_isTop : Nat := 126
abbrev impl_Heap_top : Nat := 127
abbrev impl_top_distances : Nat := 128
abbrev impl_top_steps : Nat := 129
abbrev slices_IndexFunc_Sint_int : Nat := 130
abbrev impl_FirstTopWalk_1 : Nat := 131
abbrev spec_l10Both : Nat := 132
abbrev spec_l10Spread : Nat := 133
abbrev spec_l2Tops : Nat := 134
abbrev spec_l10Steps : Nat := 135
abbrev impl_found : Nat := 136
abbrev spec_l1Most : Nat := 137
abbrev slices_Repeat_Sint_int : Nat := 138
abbrev spec_DrawStepColumns : Nat := 139
abbrev spec_l10Column : Nat := 140
abbrev spec_l10Region : Nat := 141
abbrev spec_l1Cur_heap : Nat := 142
abbrev spec_l1Cur_columnOf : Nat := 143
abbrev spec_l1Cur_among : Nat := 144
abbrev spec_l10Next : Nat := 145
abbrev spec_l1Cur_pick : Nat := 146
abbrev slices_Contains_Sint_int : Nat := 147
abbrev impl_top_near : Nat := 148
abbrev impl_top_apart : Nat := 149
abbrev spec_l2Heap : Nat := 150
abbrev spec_l1Has : Nat := 151
abbrev spec_l1Cur_reach : Nat := 152
abbrev impl_CountRegions_1 : Nat := 153
abbrev impl_Heap_heights : Nat := 154
abbrev spec_l1Cur_turn : Nat := 155
abbrev impl_isTurn : Nat := 156
abbrev impl_turnings : Nat := 157
abbrev impl_turning_of : Nat := 158
abbrev spec_l8Number : Nat := 159
abbrev spec_l8Made : Nat := 160
abbrev spec_l8Turns : Nat := 161
abbrev laws_rCells : Nat := 162
abbrev impl_turnBehind : Nat := 163
abbrev spec_l8At : Nat := 164
abbrev spec_l8Behind : Nat := 165
abbrev impl_Heap_bareFaces : Nat := 166
abbrev spec_l1Cur_piece9 : Nat := 167
abbrev spec_l1Cur_cell : Nat := 168
abbrev impl_isPacked : Nat := 169
abbrev impl_Heap_box : Nat := 170
abbrev impl_box_placed : Nat := 171
abbrev impl_Heap_free : Nat := 172
abbrev spec_l9Piece : Nat := 173
abbrev spec_l9Fits : Nat := 174
abbrev impl_box_list : Nat := 175
abbrev impl_box_those : Nat := 176
abbrev impl_PlacesFor_1 : Nat := 177
abbrev spec_l2All : Nat := 178
abbrev spec_l1Cur_one : Nat := 179
abbrev spec_l1Cur_sides : Nat := 180
abbrev impl_box_valid : Nat := 181
abbrev impl_box_size : Nat := 182
abbrev impl_box_full : Nat := 183
abbrev spec_l2Sides : Nat := 184
abbrev spec_l2Box : Nat := 185
abbrev spec_DrawIsPiece : Nat := 186
abbrev impl_parity : Nat := 187
abbrev spec_l9Parity : Nat := 188
abbrev spec_l9Free : Nat := 189
abbrev impl_within : Nat := 190
abbrev impl_allWithin : Nat := 191
abbrev impl_compareCells : Nat := 192
abbrev impl_box_heap : Nat := 193
abbrev impl_Heap_cubes : Nat := 194
abbrev impl_isCell : Nat := 195
abbrev impl_Heap_hasCube : Nat := 196
abbrev impl_isFlat : Nat := 197
abbrev impl_Heap_rows : Nat := 198
abbrev slices_Reverse_Sint_int : Nat := 199
abbrev spec_l1In : Nat := 200
abbrev spec_l10Lines : Nat := 201
abbrev slices_Max_Sint_int : Nat := 202
abbrev spec_DrawIsHeap : Nat := 203
abbrev slices_ContainsFunc_Sint_int : Nat := 204
abbrev impl_PeaksOf_1 : Nat := 205
abbrev impl_box_has : Nat := 206
abbrev impl_isDirection : Nat := 207
abbrev impl_Heap_moved : Nat := 208
abbrev impl_MirrorHeap_1 : Nat := 209
abbrev impl_box_mirror : Nat := 210
abbrev impl_Heap_dropped : Nat := 211
abbrev spec_l7Drop : Nat := 212
abbrev spec_l7Sum : Nat := 213
abbrev impl_box_standing : Nat := 214
abbrev spec_l7Parted : Nat := 215
abbrev impl_box_index : Nat := 216
abbrev spec_l2Own : Nat := 217
abbrev spec_l2Made : Nat := 218
abbrev spec_l2With : Nat := 219
abbrev slices_Contains_SA3int_A3int : Nat := 220
abbrev spec_l2Has : Nat := 221
abbrev spec_l5Same : Nat := 222
abbrev impl_box_view : Nat := 223
abbrev impl_box_parts : Nat := 224
abbrev spec_DrawViewOf : Nat := 225
abbrev spec_l2Mirrored : Nat := 226
abbrev spec_l2Empty : Nat := 227
abbrev spec_l1Cur_direction : Nat := 228
abbrev impl_SwapSides_1 : Nat := 229
abbrev spec_l2Swapped : Nat := 230
abbrev spec_l1Cur_someHeap : Nat := 231
abbrev impl_areAlike : Nat := 232
abbrev spec_l2Alike : Nat := 233
abbrev spec_l2Cropped : Nat := 234
abbrev impl_added : Nat := 235
abbrev impl_ShiftHeap_1 : Nat := 236
abbrev spec_l2Kept : Nat := 237
abbrev spec_l2Moved : Nat := 238
abbrev impl_CropHeap_1 : Nat := 239
abbrev spec_l1Least : Nat := 240
abbrev impl_WidenHeap_1 : Nat := 241
abbrev slices_DeleteFunc_Sint_int : Nat := 242
abbrev impl_top_steps_1 : Nat := 243
abbrev spec_l10Up : Nat := 244
abbrev math_bits_Mul : Nat := 245
abbrev spec_l2Fit : Nat := 246
abbrev spec_l2Apart : Nat := 247
abbrev spec_l1Cur_next : Nat := 248
abbrev slices_Index_Sint_int : Nat := 249
abbrev spec_l2In : Nat := 250
abbrev spec_l2Before : Nat := 251
abbrev impl_box_line : Nat := 252
abbrev impl_orders : Nat := 253
abbrev impl_turning_of_1 : Nat := 254
abbrev spec_l2Long : Nat := 255
abbrev spec_l8Odd : Nat := 256
abbrev slices_Index_Simpl_turning_impl_turning : Nat := 257
abbrev impl_Heap_isBare : Nat := 258
abbrev impl_beyond : Nat := 259
abbrev slices_ContainsFunc_SSA3int_SA3int : Nat := 260
abbrev impl_isPacked_1 : Nat := 261
abbrev impl_set_has : Nat := 262
abbrev spec_l9Moved : Nat := 263
abbrev impl_box_cell : Nat := 264
abbrev slices_Compare_Sint_int : Nat := 265
abbrev impl_box_stack : Nat := 266
abbrev spec_l2Stack : Nat := 267
abbrev spec_l2Heights : Nat := 268
abbrev impl_box_grown : Nat := 269
abbrev impl_box_floor : Nat := 270
abbrev spec_l2Parts : Nat := 271
abbrev slices_Index_SA3int_A3int : Nat := 272
abbrev impl_box_lines : Nat := 273
abbrev math_bits_Mul32 : Nat := 274
abbrev math_bits_Mul64 : Nat := 275
abbrev impl_others : Nat := 276
abbrev slices_IndexFunc_SSA3int_SA3int : Nat := 277
abbrev cmp_Compare_int : Nat := 278
abbrev impl_box_stack_1 : Nat := 279
abbrev spec_l2View : Nat := 280
abbrev impl_box_near : Nat := 281
abbrev impl_box_floor_1 : Nat := 282
abbrev spec_l2Without : Nat := 283
abbrev spec_l2Near : Nat := 284
abbrev cmp_isNaN_int : Nat := 285
abbrev spec_l2Others : Nat := 286
abbrev runtime_boundsError_Error : Nat := 287
abbrev runtime_boundsError_RuntimeError : Nat := 288
abbrev runtime_errorString_Error : Nat := 289
abbrev runtime_errorString_RuntimeError : Nat := 290
abbrev runtime_plainError_Error : Nat := 291
abbrev runtime_plainError_RuntimeError : Nat := 292
abbrev runtime_errorAddressString_Error : Nat := 293
abbrev runtime_errorAddressString_RuntimeError : Nat := 294
abbrev runtime_TypeAssertionError_Error : Nat := 295
abbrev runtime_TypeAssertionError_RuntimeError : Nat := 296
abbrev runtime_PanicNilError_Error : Nat := 297
abbrev runtime_PanicNilError_RuntimeError : Nat := 298
abbrev internal_abi_Type_Align : Nat := 299
abbrev internal_runtime_maps_unhashableTypeError_Error : Nat := 300
abbrev internal_runtime_maps_unhashableTypeError_RuntimeError : Nat := 301
abbrev impl_Heap_euler : Nat := 302
abbrev spec_l1Cur_any1 : Nat := 303
abbrev impl_set_count : Nat := 304
abbrev impl_box_countStairs : Nat := 305
abbrev internal_abi_Kind_String : Nat := 306
end Go.Ab.F

/- The abstract code of some functions (written by a program of mine from the translation, by way of prepF). -/
namespace Go.Ab.C
open Go.Ab
def laws_FnTopWalks : AFn :=
  ⟨1, 458, [.tmp 2],
    .seq (.ops [(none, .mv 2 (.c (.B false)))])
    (.seq (.seq (.ops [(none, .mv 61 (.t 0)),
         (none, .call (some 62) F.laws_rBig [(.t 61)])])
      (.cond (.t 62) (.seq (.ops [(none, .mv 2 (.c (.B true)))])
        (.ret))
       (.skip)))
     (.seq (.ops [(none, .mv 64 (.t 0)),
         (none, .call (some 65) F.spec_DrawFirstTopWalk [(.t 64)]),
         (none, .mv 63 (.t 65)),
         (none, .extract 66 (.t 63) 0),
         (none, .extract 67 (.t 63) 1),
         (none, .extract 68 (.t 63) 2),
         (none, .extract 69 (.t 63) 3),
         (none, .alloc 3 [(.I 0), (.I 0), (.I 0), .nil]),
         (none, .store 4 (.t 3) (.t 66)),
         (none, .mv 4 (.t 67)),
         (none, .mv 5 (.t 68)),
         (none, .mv 6 (.t 69))])
      (.seq (.ops [(none, .loadN 71 4 (.t 3)),
          (none, .mv 72 (.t 4)),
          (none, .mv 73 (.t 5)),
          (none, .mv 74 (.t 6)),
          (none, .call (some 75) F.impl_FirstTopWalk [(.t 71), (.t 72), (.t 73), (.t 74)]),
          (none, .mv 70 (.t 75)),
          (none, .extract 76 (.t 70) 0),
          (none, .extract 77 (.t 70) 1),
          (none, .mv 7 (.t 76)),
          (none, .mv 8 (.t 77))])
       (.seq (.seq (.ops [(none, .loadN 79 4 (.t 3)),
            (none, .mv 80 (.t 4)),
            (none, .mv 81 (.t 5)),
            (none, .mv 82 (.t 6)),
            (none, .call (some 83) F.spec_FirstTopWalk [(.t 79), (.t 80), (.t 81), (.t 82)]),
            (none, .mv 78 (.t 83)),
            (none, .extract 84 (.t 78) 0),
            (none, .extract 85 (.t 78) 1),
            (none, .mv 9 (.t 84)),
            (none, .mv 10 (.t 85))])
         (.seq (.ops [(none, .mv 86 (.t 8)),
             (none, .mv 87 (.t 10)),
             (none, .eqb 88 true (.t 86) (.t 87)),
             (none, .mv 89 (.t 88)),
             (some (89, false), .mv 90 (.t 7)),
             (some (89, false), .mv 91 (.t 9)),
             (some (89, false), .call (some 92) F.laws_rInts [(.t 90), (.t 91)]),
             (some (89, false), .un 93 .not (.t 92)),
             (none, .pick 94 (.t 89) (.c (.B true)) (.t 93))])
          (.cond (.t 94) (.seq (.ops [(none, .mv 2 (.c (.B false)))])
            (.ret))
           (.skip))))
        (.seq (.ops [(none, .loadN 96 4 (.t 3)),
            (none, .mv 97 (.t 4)),
            (none, .mv 98 (.t 5)),
            (none, .mv 99 (.t 6)),
            (none, .call (some 100) F.impl_TopDistance [(.t 96), (.t 97), (.t 98), (.t 99)]),
            (none, .mv 95 (.t 100)),
            (none, .extract 101 (.t 95) 0),
            (none, .extract 102 (.t 95) 1),
            (none, .mv 11 (.t 101)),
            (none, .mv 12 (.t 102))])
         (.seq (.seq (.ops [(none, .loadN 104 4 (.t 3)),
              (none, .mv 105 (.t 4)),
              (none, .mv 106 (.t 5)),
              (none, .mv 107 (.t 6)),
              (none, .call (some 108) F.spec_TopDistance [(.t 104), (.t 105), (.t 106), (.t 107)]),
              (none, .mv 103 (.t 108)),
              (none, .extract 109 (.t 103) 0),
              (none, .extract 110 (.t 103) 1),
              (none, .mv 13 (.t 109)),
              (none, .mv 14 (.t 110))])
           (.seq (.ops [(none, .mv 111 (.t 11)),
               (none, .mv 112 (.t 13)),
               (none, .bin 113 .neq (.t 111) (.t 112)),
               (none, .mv 114 (.t 113)),
               (some (114, false), .mv 115 (.t 12)),
               (some (114, false), .mv 116 (.t 14)),
               (some (114, false), .eqb 117 true (.t 115) (.t 116)),
               (none, .pick 118 (.t 114) (.c (.B true)) (.t 117)),
               (none, .mv 119 (.t 118)),
               (some (119, false), .mv 120 (.t 12)),
               (some (119, false), .mv 121 (.t 8)),
               (some (119, false), .eqb 122 true (.t 120) (.t 121)),
               (none, .pick 123 (.t 119) (.c (.B true)) (.t 122))])
            (.cond (.t 123) (.seq (.ops [(none, .mv 2 (.c (.B false)))])
              (.ret))
             (.skip))))
          (.seq (.ops [(none, .loadN 125 4 (.t 3)),
              (none, .mv 126 (.t 4)),
              (none, .mv 127 (.t 5)),
              (none, .mv 128 (.t 6)),
              (none, .call (some 129) F.impl_LeastClimb [(.t 125), (.t 126), (.t 127), (.t 128)]),
              (none, .mv 124 (.t 129)),
              (none, .extract 130 (.t 124) 0),
              (none, .extract 131 (.t 124) 1),
              (none, .mv 15 (.t 130)),
              (none, .mv 16 (.t 131))])
           (.seq (.seq (.ops [(none, .loadN 133 4 (.t 3)),
                (none, .mv 134 (.t 4)),
                (none, .mv 135 (.t 5)),
                (none, .mv 136 (.t 6)),
                (none, .call (some 137) F.spec_LeastClimb [(.t 133), (.t 134), (.t 135), (.t 136)]),
                (none, .mv 132 (.t 137)),
                (none, .extract 138 (.t 132) 0),
                (none, .extract 139 (.t 132) 1),
                (none, .mv 17 (.t 138)),
                (none, .mv 18 (.t 139))])
             (.seq (.ops [(none, .mv 140 (.t 15)),
                 (none, .mv 141 (.t 17)),
                 (none, .bin 142 .neq (.t 140) (.t 141)),
                 (none, .mv 143 (.t 142)),
                 (some (143, false), .mv 144 (.t 16)),
                 (some (143, false), .mv 145 (.t 18)),
                 (some (143, false), .eqb 146 true (.t 144) (.t 145)),
                 (none, .pick 147 (.t 143) (.c (.B true)) (.t 146)),
                 (none, .mv 148 (.t 147)),
                 (some (148, false), .mv 149 (.t 16)),
                 (some (148, false), .mv 150 (.t 8)),
                 (some (148, false), .eqb 151 true (.t 149) (.t 150)),
                 (none, .pick 152 (.t 148) (.c (.B true)) (.t 151))])
              (.cond (.t 152) (.seq (.ops [(none, .mv 2 (.c (.B false)))])
                (.ret))
               (.skip))))
            (.seq (.ops [(none, .loadN 154 4 (.t 3)),
                (none, .mv 155 (.t 4)),
                (none, .mv 156 (.t 5)),
                (none, .call (some 157) F.impl_LeastReach [(.t 154), (.t 155), (.t 156)]),
                (none, .mv 153 (.t 157)),
                (none, .extract 158 (.t 153) 0),
                (none, .extract 159 (.t 153) 1),
                (none, .mv 19 (.t 158)),
                (none, .mv 20 (.t 159))])
             (.seq (.seq (.ops [(none, .loadN 161 4 (.t 3)),
                  (none, .mv 162 (.t 4)),
                  (none, .mv 163 (.t 5)),
                  (none, .call (some 164) F.spec_LeastReach [(.t 161), (.t 162), (.t 163)]),
                  (none, .mv 160 (.t 164)),
                  (none, .extract 165 (.t 160) 0),
                  (none, .extract 166 (.t 160) 1),
                  (none, .mv 21 (.t 165)),
                  (none, .mv 22 (.t 166))])
               (.seq (.ops [(none, .mv 167 (.t 19)),
                   (none, .mv 168 (.t 21)),
                   (none, .bin 169 .neq (.t 167) (.t 168)),
                   (none, .mv 170 (.t 169)),
                   (some (170, false), .mv 171 (.t 20)),
                   (some (170, false), .mv 172 (.t 22)),
                   (some (170, false), .eqb 173 true (.t 171) (.t 172)),
                   (none, .pick 174 (.t 170) (.c (.B true)) (.t 173)),
                   (none, .mv 175 (.t 174)),
                   (some (175, false), .mv 176 (.t 8)),
                   (some (175, false), .mv 177 (.t 176)),
                   (some (177, true), .mv 178 (.t 20)),
                   (some (177, true), .un 179 .not (.t 178)),
                   (some (175, false), .pick 180 (.t 177) (.t 179) (.c (.B false))),
                   (none, .pick 181 (.t 175) (.c (.B true)) (.t 180))])
                (.cond (.t 181) (.seq (.ops [(none, .mv 2 (.c (.B false)))])
                  (.ret))
                 (.skip))))
              (.seq (.ops [(none, .mv 183 (.t 0)),
                  (none, .call (some 184) F.spec_DrawTopRegion [(.t 183)]),
                  (none, .mv 182 (.t 184)),
                  (none, .extract 185 (.t 182) 0),
                  (none, .extract 186 (.t 182) 1),
                  (none, .extract 187 (.t 182) 2),
                  (none, .alloc 23 [(.I 0), (.I 0), (.I 0), .nil]),
                  (none, .store 4 (.t 23) (.t 185)),
                  (none, .mv 24 (.t 186)),
                  (none, .mv 25 (.t 187))])
               (.seq (.ops [(none, .loadN 189 4 (.t 23)),
                   (none, .mv 190 (.t 24)),
                   (none, .mv 191 (.t 25)),
                   (none, .call (some 192) F.impl_TopRegion [(.t 189), (.t 190), (.t 191)]),
                   (none, .mv 188 (.t 192)),
                   (none, .extract 193 (.t 188) 0),
                   (none, .extract 194 (.t 188) 1),
                   (none, .mv 26 (.t 193)),
                   (none, .mv 27 (.t 194))])
                (.seq (.seq (.ops [(none, .loadN 196 4 (.t 23)),
                     (none, .mv 197 (.t 24)),
                     (none, .mv 198 (.t 25)),
                     (none, .call (some 199) F.spec_TopRegion [(.t 196), (.t 197), (.t 198)]),
                     (none, .mv 195 (.t 199)),
                     (none, .extract 200 (.t 195) 0),
                     (none, .extract 201 (.t 195) 1),
                     (none, .mv 28 (.t 200)),
                     (none, .mv 29 (.t 201))])
                  (.seq (.ops [(none, .mv 202 (.t 27)),
                      (none, .mv 203 (.t 29)),
                      (none, .eqb 204 true (.t 202) (.t 203)),
                      (none, .mv 205 (.t 204)),
                      (some (205, false), .mv 206 (.t 26)),
                      (some (205, false), .mv 207 (.t 28)),
                      (some (205, false), .call (some 208) F.laws_rInts [(.t 206), (.t 207)]),
                      (some (205, false), .un 209 .not (.t 208)),
                      (none, .pick 210 (.t 205) (.c (.B true)) (.t 209))])
                   (.cond (.t 210) (.seq (.ops [(none, .mv 2 (.c (.B false)))])
                     (.ret))
                    (.skip))))
                 (.seq (.ops [(none, .loadN 212 4 (.t 23)),
                     (none, .mv 213 (.t 24)),
                     (none, .mv 214 (.t 25)),
                     (none, .call (some 215) F.impl_StepColumns [(.t 212), (.t 213), (.t 214)]),
                     (none, .mv 211 (.t 215)),
                     (none, .extract 216 (.t 211) 0),
                     (none, .extract 217 (.t 211) 1),
                     (none, .mv 30 (.t 216)),
                     (none, .mv 31 (.t 217))])
                  (.seq (.seq (.ops [(none, .loadN 219 4 (.t 23)),
                       (none, .mv 220 (.t 24)),
                       (none, .mv 221 (.t 25)),
                       (none, .call (some 222) F.spec_StepColumns [(.t 219), (.t 220), (.t 221)]),
                       (none, .mv 218 (.t 222)),
                       (none, .extract 223 (.t 218) 0),
                       (none, .extract 224 (.t 218) 1),
                       (none, .mv 32 (.t 223)),
                       (none, .mv 33 (.t 224))])
                    (.seq (.ops [(none, .mv 225 (.t 31)),
                        (none, .mv 226 (.t 33)),
                        (none, .eqb 227 true (.t 225) (.t 226)),
                        (none, .mv 228 (.t 227)),
                        (some (228, false), .mv 229 (.t 31)),
                        (some (228, false), .mv 230 (.t 27)),
                        (some (228, false), .eqb 231 true (.t 229) (.t 230)),
                        (none, .pick 232 (.t 228) (.c (.B true)) (.t 231)),
                        (none, .mv 233 (.t 232)),
                        (some (233, false), .mv 234 (.t 30)),
                        (some (233, false), .mv 235 (.t 32)),
                        (some (233, false), .call (some 236) F.laws_rInts [(.t 234), (.t 235)]),
                        (some (233, false), .un 237 .not (.t 236)),
                        (none, .pick 238 (.t 233) (.c (.B true)) (.t 237))])
                     (.cond (.t 238) (.seq (.ops [(none, .mv 2 (.c (.B false)))])
                       (.ret))
                      (.skip))))
                   (.seq (.ops [(none, .mv 240 (.t 0)),
                       (none, .call (some 241) F.spec_DrawWalkClimb [(.t 240)]),
                       (none, .mv 239 (.t 241)),
                       (none, .extract 242 (.t 239) 0),
                       (none, .extract 243 (.t 239) 1),
                       (none, .alloc 34 [(.I 0), (.I 0), (.I 0), .nil]),
                       (none, .store 4 (.t 34) (.t 242)),
                       (none, .mv 35 (.t 243))])
                    (.seq (.ops [(none, .loadN 245 4 (.t 34)),
                        (none, .mv 246 (.t 35)),
                        (none, .call (some 247) F.impl_WalkClimb [(.t 245), (.t 246)]),
                        (none, .mv 244 (.t 247)),
                        (none, .extract 248 (.t 244) 0),
                        (none, .extract 249 (.t 244) 1),
                        (none, .extract 250 (.t 244) 2),
                        (none, .mv 36 (.t 248)),
                        (none, .mv 37 (.t 249)),
                        (none, .mv 38 (.t 250))])
                     (.seq (.seq (.ops [(none, .loadN 252 4 (.t 34)),
                          (none, .mv 253 (.t 35)),
                          (none, .call (some 254) F.spec_WalkClimb [(.t 252), (.t 253)]),
                          (none, .mv 251 (.t 254)),
                          (none, .extract 255 (.t 251) 0),
                          (none, .extract 256 (.t 251) 1),
                          (none, .extract 257 (.t 251) 2),
                          (none, .mv 39 (.t 255)),
                          (none, .mv 40 (.t 256)),
                          (none, .mv 41 (.t 257))])
                       (.seq (.ops [(none, .mv 258 (.t 36)),
                           (none, .mv 259 (.t 39)),
                           (none, .bin 260 .neq (.t 258) (.t 259)),
                           (none, .mv 261 (.t 260)),
                           (some (261, false), .mv 262 (.t 37)),
                           (some (261, false), .mv 263 (.t 40)),
                           (some (261, false), .bin 264 .neq (.t 262) (.t 263)),
                           (none, .pick 265 (.t 261) (.c (.B true)) (.t 264)),
                           (none, .mv 266 (.t 265)),
                           (some (266, false), .mv 267 (.t 38)),
                           (some (266, false), .mv 268 (.t 41)),
                           (some (266, false), .eqb 269 true (.t 267) (.t 268)),
                           (none, .pick 270 (.t 266) (.c (.B true)) (.t 269))])
                        (.cond (.t 270) (.seq (.ops [(none, .mv 2 (.c (.B false)))])
                          (.ret))
                         (.skip))))
                      (.seq (.ops [(none, .mv 272 (.t 0)),
                          (none, .call (some 273) F.spec_DrawCountRegions [(.t 272)]),
                          (none, .mv 271 (.t 273)),
                          (none, .extract 274 (.t 271) 0),
                          (none, .extract 275 (.t 271) 1),
                          (none, .alloc 42 [(.I 0), (.I 0), (.I 0), .nil]),
                          (none, .store 4 (.t 42) (.t 274)),
                          (none, .mv 43 (.t 275))])
                       (.seq (.ops [(none, .loadN 277 4 (.t 42)),
                           (none, .mv 278 (.t 43)),
                           (none, .call (some 279) F.impl_CountRegions [(.t 277), (.t 278)]),
                           (none, .mv 276 (.t 279)),
                           (none, .extract 280 (.t 276) 0),
                           (none, .extract 281 (.t 276) 1),
                           (none, .mv 44 (.t 280)),
                           (none, .mv 45 (.t 281))])
                        (.seq (.seq (.ops [(none, .loadN 283 4 (.t 42)),
                             (none, .mv 284 (.t 43)),
                             (none, .call (some 285) F.spec_CountRegions [(.t 283), (.t 284)]),
                             (none, .mv 282 (.t 285)),
                             (none, .extract 286 (.t 282) 0),
                             (none, .extract 287 (.t 282) 1),
                             (none, .mv 46 (.t 286)),
                             (none, .mv 47 (.t 287))])
                          (.seq (.ops [(none, .mv 288 (.t 44)),
                              (none, .mv 289 (.t 46)),
                              (none, .bin 290 .neq (.t 288) (.t 289)),
                              (none, .mv 291 (.t 290)),
                              (some (291, false), .mv 292 (.t 45)),
                              (some (291, false), .mv 293 (.t 47)),
                              (some (291, false), .eqb 294 true (.t 292) (.t 293)),
                              (none, .pick 295 (.t 291) (.c (.B true)) (.t 294))])
                           (.cond (.t 295) (.seq (.ops [(none, .mv 2 (.c (.B false)))])
                             (.ret))
                            (.skip))))
                         (.seq (.seq (.ops [(none, .mv 296 (.t 38))])
                           (.cond (.t 296) (.seq (.ops [(none, .buildSl 297 0 1 [] []),
                                (none, .mv 48 (.t 297))])
                             (.seq (.seq (.ops [(none, .mv 298 (.t 35)),
                                  (none, .len 299 (.t 298)),
                                  (none, .bin 300 .sub (.t 299) (.c (.I 1))),
                                  (none, .mv 49 (.t 300))])
                               (.block 0 (.loop (.seq (.seq (.ops [(none, .mv 301 (.t 49)),
                                      (none, .bin 302 .geq (.t 301) (.c (.I 0)))])
                                   (.cond (.t 302) (.skip)
                                    (.exit 0)))
                                  (.seq (.block 1 (.ops [(none, .mv 305 (.t 48)),
                                       (none, .mv 306 (.t 35)),
                                       (none, .mv 307 (.t 49)),
                                       (none, .idxS 308 1 (.t 306) (.t 307)),
                                       (none, .load1 309 (.t 308)),
                                       (none, .buildSl 310 1 1 [(.I 0)] [(0, 1, (.t 309))]),
                                       (none, .append 311 1 8 (.t 305) (.t 310)),
                                       (none, .mv 48 (.t 311))]))
                                   (.ops [(none, .mv 303 (.t 49)),
                                      (none, .bin 304 .sub (.t 303) (.c (.I 1))),
                                      (none, .mv 49 (.t 304))]))))))
                              (.seq (.ops [(none, .loadN 313 4 (.t 34)),
                                  (none, .call (some 314) F.impl_TopHeights [(.t 313)]),
                                  (none, .mv 312 (.t 314)),
                                  (none, .extract 315 (.t 312) 0),
                                  (none, .extract 316 (.t 312) 1),
                                  (none, .mv 50 (.t 315)),
                                  (none, .mv 51 (.t 316))])
                               (.seq (.ops [(none, .loadN 318 4 (.t 34)),
                                   (none, .mv 319 (.t 48)),
                                   (none, .call (some 320) F.impl_WalkClimb [(.t 318), (.t 319)]),
                                   (none, .mv 317 (.t 320)),
                                   (none, .extract 321 (.t 317) 0),
                                   (none, .extract 322 (.t 317) 1),
                                   (none, .extract 323 (.t 317) 2),
                                   (none, .mv 52 (.t 321)),
                                   (none, .mv 53 (.t 322)),
                                   (none, .mv 54 (.t 323))])
                                (.seq (.draw [⟨(none, .mv 324 (.t 51)), [], []⟩,
                                    ⟨(none, .un 325 .not (.t 324)), [], []⟩,
                                    ⟨(none, .mv 326 (.t 325)), [], []⟩,
                                    ⟨(some (326, false), .mv 327 (.t 54)), [], []⟩,
                                    ⟨(some (326, false), .un 328 .not (.t 327)), [], []⟩,
                                    ⟨(none, .pick 329 (.t 326) (.c (.B true)) (.t 328)), [], []⟩,
                                    ⟨(none, .mv 330 (.t 329)), [], []⟩,
                                    ⟨(some (330, false), .mv 331 (.t 52)), [], []⟩,
                                    ⟨(some (330, false), .mv 332 (.t 36)), [], []⟩,
                                    ⟨(some (330, false), .bin 333 .neq (.t 331) (.t 332)), [], []⟩,
                                    ⟨(none, .pick 334 (.t 330) (.c (.B true)) (.t 333)), [], []⟩,
                                    ⟨(none, .mv 335 (.t 334)), [], []⟩,
                                    ⟨(some (335, false), .mv 336 (.t 37)), [], []⟩,
                                    ⟨(some (335, false), .mv 337 (.t 53)), [], []⟩,
                                    ⟨(some (335, false), .bin 338 .sub (.t 336) (.t 337)), [], []⟩,
                                    ⟨(some (335, false), .mv 339 (.t 50)), [], []⟩,
                                    ⟨(some (335, false), .mv 340 (.t 35)), [], []⟩,
                                    ⟨(some (335, false), .mv 341 (.t 35)), [], []⟩,
                                    ⟨(some (335, false), .len 342 (.t 341)), [], []⟩,
                                    ⟨(some (335, false), .bin 343 .sub (.t 342) (.c (.I 1))), [], []⟩,
                                    ⟨(some (335, false), .idxS 344 1 (.t 340) (.t 343)), [], []⟩,
                                    ⟨(some (335, false), .load1 345 (.t 344)), [], []⟩,
                                    ⟨(some (335, false), .idxS 346 1 (.t 339) (.t 345)), [], []⟩,
                                    ⟨(some (335, false), .load1 347 (.t 346)), [], []⟩,
                                    ⟨(some (335, false), .mv 348 (.t 50)), [], []⟩,
                                    ⟨(some (335, false), .mv 349 (.t 35)), [], []⟩,
                                    ⟨(some (335, false), .idxS 350 1 (.t 349) (.c (.I 0))), [], []⟩,
                                    ⟨(some (335, false), .load1 351 (.t 350)), [], []⟩,
                                    ⟨(some (335, false), .idxS 352 1 (.t 348) (.t 351)), [], []⟩,
                                    ⟨(some (335, false), .load1 353 (.t 352)), [], []⟩,
                                    ⟨(some (335, false), .bin 354 .sub (.t 347) (.t 353)), [], []⟩,
                                    ⟨(some (335, false), .bin 355 .neq (.t 338) (.t 354)), [], []⟩,
                                    ⟨(none, .pick 356 (.t 335) (.c (.B true)) (.t 355)), [], []⟩])
                                 (.cond (.t 356) (.seq (.ops [(none, .mv 2 (.c (.B false)))])
                                   (.ret))
                                  (.skip)))))))
                            (.skip)))
                          (.seq (.seq (.ops [(none, .mv 357 (.t 27))])
                            (.cond (.t 357) (.seq (.seq (.ops [(none, .mv 55 (.c (.I 0)))])
                               (.block 2 (.loop (.seq (.seq (.ops [(none, .mv 358 (.t 55)),
                                      (none, .mv 359 (.t 30)),
                                      (none, .len 360 (.t 359)),
                                      (none, .bin 361 .lss (.t 358) (.t 360))])
                                   (.cond (.t 361) (.skip)
                                    (.exit 2)))
                                  (.seq (.block 3 (.seq (.ops [(none, .mv 364 (.t 26)),
                                        (none, .mv 365 (.t 30)),
                                        (none, .mv 366 (.t 55)),
                                        (none, .idxS 367 1 (.t 365) (.t 366)),
                                        (none, .load1 368 (.t 367)),
                                        (none, .call (some 369) F.laws_rHas [(.t 364), (.t 368)]),
                                        (none, .un 370 .not (.t 369))])
                                     (.cond (.t 370) (.seq (.ops [(none, .mv 2 (.c (.B false)))])
                                       (.ret))
                                      (.skip))))
                                   (.ops [(none, .mv 362 (.t 55)),
                                      (none, .bin 363 .add (.t 362) (.c (.I 1))),
                                      (none, .mv 55 (.t 363))]))))))
                              (.seq (.ops [(none, .mv 371 (.t 26)),
                                  (none, .mv 372 (.t 24)),
                                  (none, .call (some 373) F.laws_rHas [(.t 371), (.t 372)]),
                                  (none, .un 374 .not (.t 373))])
                               (.cond (.t 374) (.seq (.ops [(none, .mv 2 (.c (.B false)))])
                                 (.ret))
                                (.skip))))
                             (.skip)))
                           (.seq (.seq (.ops [(none, .mv 375 (.t 45))])
                             (.cond (.t 375) (.seq (.ops [(none, .loadN 377 4 (.t 42)),
                                  (none, .fieldAddr 378 (.t 42) 2),
                                  (none, .load1 379 (.t 378)),
                                  (none, .call (some 380) F.impl_CountRegions [(.t 377), (.t 379)]),
                                  (none, .mv 376 (.t 380)),
                                  (none, .extract 381 (.t 376) 0),
                                  (none, .extract 382 (.t 376) 1),
                                  (none, .mv 56 (.t 381)),
                                  (none, .mv 57 (.t 382))])
                               (.seq (.ops [(none, .mv 383 (.t 57)),
                                   (none, .un 384 .not (.t 383)),
                                   (none, .mv 385 (.t 384)),
                                   (some (385, false), .mv 386 (.t 56)),
                                   (some (385, false), .bin 387 .neq (.t 386) (.c (.I 1))),
                                   (none, .pick 388 (.t 385) (.c (.B true)) (.t 387)),
                                   (none, .mv 389 (.t 388)),
                                   (some (389, false), .mv 390 (.t 44)),
                                   (some (389, false), .bin 391 .lss (.t 390) (.c (.I 1))),
                                   (none, .pick 392 (.t 389) (.c (.B true)) (.t 391)),
                                   (none, .mv 393 (.t 392)),
                                   (some (393, false), .mv 394 (.t 44)),
                                   (some (393, false), .fieldAddr 395 (.t 42) 0),
                                   (some (393, false), .load1 396 (.t 395)),
                                   (some (393, false), .fieldAddr 397 (.t 42) 1),
                                   (some (393, false), .load1 398 (.t 397)),
                                   (some (393, false), .bin 399 .mul (.t 396) (.t 398)),
                                   (some (393, false), .bin 400 .gtr (.t 394) (.t 399)),
                                   (none, .pick 401 (.t 393) (.c (.B true)) (.t 400))])
                                (.cond (.t 401) (.seq (.ops [(none, .mv 2 (.c (.B false)))])
                                  (.ret))
                                 (.skip))))
                              (.skip)))
                            (.seq (.seq (.ops [(none, .mv 402 (.t 20)),
                                 (none, .mv 403 (.t 402)),
                                 (some (403, true), .mv 404 (.t 8)),
                                 (some (403, true), .mv 405 (.t 19)),
                                 (some (403, true), .mv 406 (.t 6)),
                                 (some (403, true), .bin 407 .leq (.t 405) (.t 406)),
                                 (some (403, true), .eqb 408 true (.t 404) (.t 407)),
                                 (none, .pick 409 (.t 403) (.t 408) (.c (.B false)))])
                              (.cond (.t 409) (.seq (.ops [(none, .mv 410 (.t 8)),
                                   (none, .un 411 .not (.t 410)),
                                   (none, .mv 412 (.t 411)),
                                   (some (412, true), .mv 413 (.t 6)),
                                   (some (412, true), .bin 414 .lss (.t 413) (.c (.I 0))),
                                   (none, .pick 415 (.t 412) (.t 414) (.c (.B false))),
                                   (none, .mv 2 (.t 415))])
                                (.ret))
                               (.skip)))
                             (.seq (.seq (.ops [(none, .mv 416 (.t 8)),
                                  (none, .un 417 .not (.t 416))])
                               (.cond (.t 417) (.seq (.ops [(none, .mv 2 (.c (.B true)))])
                                 (.ret))
                                (.skip)))
                              (.seq (.ops [(none, .loadN 419 4 (.t 3)),
                                  (none, .mv 420 (.t 7)),
                                  (none, .call (some 421) F.impl_WalkClimb [(.t 419), (.t 420)]),
                                  (none, .mv 418 (.t 421)),
                                  (none, .extract 422 (.t 418) 0),
                                  (none, .extract 423 (.t 418) 1),
                                  (none, .extract 424 (.t 418) 2),
                                  (none, .mv 58 (.t 422)),
                                  (none, .mv 59 (.t 423)),
                                  (none, .mv 60 (.t 424))])
                               (.seq (.ops [(none, .mv 425 (.t 60)),
                                   (none, .mv 426 (.t 425)),
                                   (some (426, true), .mv 427 (.t 7)),
                                   (some (426, true), .len 428 (.t 427)),
                                   (some (426, true), .mv 429 (.t 11)),
                                   (some (426, true), .bin 430 .add (.t 429) (.c (.I 1))),
                                   (some (426, true), .bin 431 .eql (.t 428) (.t 430)),
                                   (none, .pick 432 (.t 426) (.t 431) (.c (.B false))),
                                   (none, .mv 433 (.t 432)),
                                   (some (433, true), .mv 434 (.t 58)),
                                   (some (433, true), .mv 435 (.t 6)),
                                   (some (433, true), .bin 436 .leq (.t 434) (.t 435)),
                                   (none, .pick 437 (.t 433) (.t 436) (.c (.B false))),
                                   (none, .mv 438 (.t 437)),
                                   (some (438, true), .mv 439 (.t 59)),
                                   (some (438, true), .mv 440 (.t 15)),
                                   (some (438, true), .bin 441 .geq (.t 439) (.t 440)),
                                   (none, .pick 442 (.t 438) (.t 441) (.c (.B false))),
                                   (none, .mv 443 (.t 442)),
                                   (some (443, true), .mv 444 (.t 7)),
                                   (some (443, true), .idxS 445 1 (.t 444) (.c (.I 0))),
                                   (some (443, true), .load1 446 (.t 445)),
                                   (some (443, true), .mv 447 (.t 4)),
                                   (some (443, true), .bin 448 .eql (.t 446) (.t 447)),
                                   (none, .pick 449 (.t 443) (.t 448) (.c (.B false))),
                                   (none, .mv 450 (.t 449)),
                                   (some (450, true), .mv 451 (.t 7)),
                                   (some (450, true), .mv 452 (.t 11)),
                                   (some (450, true), .idxS 453 1 (.t 451) (.t 452)),
                                   (some (450, true), .load1 454 (.t 453)),
                                   (some (450, true), .mv 455 (.t 5)),
                                   (some (450, true), .bin 456 .eql (.t 454) (.t 455)),
                                   (none, .pick 457 (.t 450) (.t 456) (.c (.B false))),
                                   (none, .mv 2 (.t 457))])
                                (.ret)))))))))))))))))))))))))))))⟩
end Go.Ab.C

/- That the program has this code. -/
namespace Go.Ab.K
open Go Go.Ab
theorem laws_FnTopWalks : prepF Go.Proofs.Try.prog F.laws_FnTopWalks = some C.laws_FnTopWalks := by kernel_rfl
end Go.Ab.K

/- The abstract machine by simp: rules that step through code, and words for what they leave. -/
namespace Go.Ab
open Go

/-! ### What a step leaves -/
def condB (t : Bool) (A B : Prop) : Prop := (t = true → A) ∧ (t = false → B)
def condV (v : LV) (A B : Prop) : Prop := match v with | .val (.bool t) => condB t A B | _ => False
def guardV (v : LV) (want : Bool) (A B : Prop) : Prop := match v with
  | .val (.bool b) => condB (b == want) A B
  | .tup [] => B
  | _ => False
def andK (c : Prop) (A : Prop) : Prop := c ∧ A
def sopK (r : Option (Nat × LV × Prop)) (fr : Fr) (M : Mem) (K : Fr → Mem → Prop) : Prop := match r with
  | some (d, v, c) => andK c (K (upd fr d v) M)
  | none => False
def aopK (r : Option (Nat × (Nat → LV) × Blk × Prop)) (fr : Fr) (M : Mem) (K : Fr → Mem → Prop) : Prop := match r with
  | some (d, v, blk, c) => andK c (K (upd fr d (v M.length)) (M ++ [some blk]))
  | none => False
def memK (r : Option Mem) (A : Mem → Prop) : Prop := match r with
  | some M => A M
  | none => False
def appK (r : Option (LV × Mem)) (A : LV → Mem → Prop) : Prop := match r with
  | some (v, M) => A v M
  | none => False
def callK (P : Program) (f : FuncId) (args : List LV) (M : Mem) (A : LV → Mem → Prop) : Prop := CallsR P f args M A
def storeK (n : Nat) (a x : LV) (M : Mem) (A : Mem → Prop) : Prop := match a, x.cells with
  | .ptr t off, some cs => andK (cs.length = n) (memK (setCells M t off cs) A)
  | _, _ => False
def appendK (esz bytes : Nat) (s x : LV) (M : Mem) (A : LV → Mem → Prop) : Prop := match lenS s, lenS x, winC M esz x with
  | some m, some n, some new => andK ((m + n) * bytes ≤ 140737488355328 ∧ m + n ≤ 9223372036854775807) (appK (appV M esz s n new) A)
  | _, _, _ => False
def copyK (esz : Nat) (s x : LV) (M : Mem) (A : Nat → Mem → Prop) : Prop := match s, lenS x, winC M esz x with
  | .ref t off m, some n, some new => memK (setCells M t off (new.take (min n m * esz))) (A (min n m))
  | _, _, _ => False
def clearK (e : Nat) (z : List LV) (x : LV) (M : Mem) (A : Mem → Prop) : Prop := match x with
  | .ref t off m => andK (z.length = e) (memK (setCells M t off (List.replicate m z).flatten) A)
  | _ => False
def callVK (P : Program) (x : LV) (args : List LV) (M : Mem) (A : LV → Mem → Prop) : Prop := match x with
  | .clo f caps => callK P f (args ++ caps.map fun p => .ptr p.1 p.2) M A
  | _ => False

/-- Continuations by name (so that simp finds nothing to do in what has not run yet). -/
def opsK (P : Program) (r : List GOp) (K : Fr → Mem → Prop) : Fr → Mem → Prop := fun fr M => EvOps P r fr M K
def putK (K : Fr → Mem → Prop) (fr : Fr) (d : Option Nat) : LV → Mem → Prop := fun v N => K (putO fr d v) N
def cntK (K : Fr → Mem → Prop) (fr : Fr) (d : Nat) : Nat → Mem → Prop := fun n N => K (upd fr d (.I (n : Int))) N
def seqK (P : Program) (b : ACode) (Q : AExit → Fr → Mem → Prop) : AExit → Fr → Mem → Prop := thenK (fun fr M => EvC P b fr M Q) Q
def evdK (P : Program) (r : List DOp) (lg : List (Option Nat)) (K : Fr → Mem → Prop) : Fr → Mem → Prop := fun fr M => EvD P r fr M lg K
def evd1K (P : Program) (r : List DOp) (lg : List (Option Nat)) (n : Nat) (K : Fr → Mem → Prop) : Fr → Mem → Prop := fun fr M => EvD P r fr M (lg ++ [if M.length = n then none else some n]) K
def evd2K (P : Program) (r : List DOp) (lg : List (Option Nat)) (M : Mem) (ks us : List Nat) (K : Fr → Mem → Prop) : Fr → Mem → Prop := fun fr N => andK (KeepL us M (unmask M ks N)) (EvD P r fr (unmask M ks N) (lg ++ [none]) K)
def endQ (res : List ARes) (M N : Mem) (v : LV) : AExit → Fr → Mem → Prop := fun e fr Me => (e = .normal ∨ e = .ret) ∧ ∃ ve, resV fr Me res = some ve ∧ Cmp M Me ve N v
def endR (res : List ARes) (Post : LV → Mem → Prop) : AExit → Fr → Mem → Prop := fun e fr Me => (e = .normal ∨ e = .ret) ∧ ∃ ve, resV fr Me res = some ve ∧ Post ve Me
def postK (Post : LV → Mem → Prop) (v : LV) (M : Mem) : Prop := Post v M
def rndK (m : Nat) (I : Nat → Fr → Mem → Prop) : Fr → Mem → Prop := fun fr' M' => ∃ m', m' < m ∧ I m' fr' M'

def condC (v : LV) (P : Program) (a b : ACode) (fr : Fr) (M : Mem) (Q : AExit → Fr → Mem → Prop) : Prop := condV v (EvC P a fr M Q) (EvC P b fr M Q)
def guardO (v : LV) (w : Bool) (P : Program) (o : AOp) (fr : Fr) (M : Mem) (K : Fr → Mem → Prop) : Prop := guardV v w (EvOp P o fr M K) (K (putO fr o.dst undefL) M)

@[congr] theorem condB_congr {t t' : Bool} {A B : Prop} (h : t = t') : condB t A B = condB t' A B := by rw [h]
@[congr] theorem andK_congr {c c' : Prop} {A : Prop} (h : c = c') : andK c A = andK c' A := by rw [h]
@[congr] theorem sopK_congr {r r' : Option (Nat × LV × Prop)} {fr : Fr} {M : Mem} {K : Fr → Mem → Prop} (h : r = r') : sopK r fr M K = sopK r' fr M K := by rw [h]
@[congr] theorem aopK_congr {r r' : Option (Nat × (Nat → LV) × Blk × Prop)} {fr : Fr} {M : Mem} {K : Fr → Mem → Prop} (h : r = r') : aopK r fr M K = aopK r' fr M K := by rw [h]
@[congr] theorem memK_congr {r r' : Option Mem} {A : Mem → Prop} (h : r = r') : memK r A = memK r' A := by rw [h]
@[congr] theorem appK_congr {r r' : Option (LV × Mem)} {A : LV → Mem → Prop} (h : r = r') : appK r A = appK r' A := by rw [h]
@[congr] theorem postK_congr {Post : LV → Mem → Prop} {v v' : LV} {M M' : Mem} (h : v = v') (h' : M = M') : postK Post v M = postK Post v' M' := by rw [h, h']
@[congr] theorem callK_congr {P : Program} {f : FuncId} {args args' : List LV} {M M' : Mem} {A : LV → Mem → Prop} (h : args = args') (h' : M = M') : callK P f args M A = callK P f args' M' A := by rw [h, h']
@[congr] theorem storeK_congr {n : Nat} {a a' x x' : LV} {M M' : Mem} {A : Mem → Prop} (h : a = a') (h' : x = x') (h'' : M = M') : storeK n a x M A = storeK n a' x' M' A := by rw [h, h', h'']
@[congr] theorem appendK_congr {esz b : Nat} {s s' x x' : LV} {M M' : Mem} {A : LV → Mem → Prop} (h : s = s') (h' : x = x') (h'' : M = M') : appendK esz b s x M A = appendK esz b s' x' M' A := by rw [h, h', h'']
@[congr] theorem copyK_congr {esz : Nat} {s s' x x' : LV} {M M' : Mem} {A : Nat → Mem → Prop} (h : s = s') (h' : x = x') (h'' : M = M') : copyK esz s x M A = copyK esz s' x' M' A := by rw [h, h', h'']
@[congr] theorem clearK_congr {e : Nat} {z : List LV} {x x' : LV} {M M' : Mem} {A : Mem → Prop} (h : x = x') (h' : M = M') : clearK e z x M A = clearK e z x' M' A := by rw [h, h']
@[congr] theorem callVK_congr {P : Program} {x x' : LV} {args args' : List LV} {M M' : Mem} {A : LV → Mem → Prop} (h : x = x') (h' : args = args') (h'' : M = M') : callVK P x args M A = callVK P x' args' M' A := by rw [h, h', h'']
@[congr] theorem EvC_congr {P : Program} {a : ACode} {fr : Fr} {M M' : Mem} {Q : AExit → Fr → Mem → Prop} (h : M = M') : EvC P a fr M Q = EvC P a fr M' Q := by rw [h]

section
variable {P : Program} {fr : Fr} {M : Mem} {K : Fr → Mem → Prop} {Q : AExit → Fr → Mem → Prop} {A B : Prop}

theorem condB_t : condB true A B = A := by simp [condB]
theorem condB_f : condB false A B = B := by simp [condB]
section
variable {a b : ACode} {o : AOp} {t : Bool} {p : Prop}
theorem condC_t : condC (.val (.bool true)) P a b fr M Q = EvC P a fr M Q := condB_t
theorem condC_f : condC (.val (.bool false)) P a b fr M Q = EvC P b fr M Q := condB_f
theorem condC_not : condC (.val (.bool (!t))) P a b fr M Q = condC (.val (.bool t)) P b a fr M Q := by cases t <;> simp only [Bool.not_true, Bool.not_false, condC_t, condC_f]
theorem condC_dec [Decidable p] (h1 : p → EvC P a fr M Q) (h2 : ¬ p → EvC P b fr M Q) : condC (.val (.bool (decide p))) P a b fr M Q := by
  by_cases h : p
  · rw [decide_eq_true h, condC_t]; exact h1 h
  · rw [decide_eq_false h, condC_f]; exact h2 h
theorem condC_dt [Decidable p] (h : p) : condC (.val (.bool (decide p))) P a b fr M Q = EvC P a fr M Q := by rw [decide_eq_true h, condC_t]
theorem condC_df [Decidable p] (h : ¬ p) : condC (.val (.bool (decide p))) P a b fr M Q = EvC P b fr M Q := by rw [decide_eq_false h, condC_f]
theorem condC_mk (h1 : t = true → EvC P a fr M Q) (h2 : t = false → EvC P b fr M Q) : condC (.val (.bool t)) P a b fr M Q := by
  cases t
  · rw [condC_f]; exact h2 rfl
  · rw [condC_t]; exact h1 rfl
theorem guardO_tt : guardO (.val (.bool true)) true P o fr M K = EvOp P o fr M K := condB_t
theorem guardO_ff : guardO (.val (.bool false)) false P o fr M K = EvOp P o fr M K := condB_t
theorem guardO_tf : guardO (.val (.bool true)) false P o fr M K = K (putO fr o.dst undefL) M := condB_f
theorem guardO_ft : guardO (.val (.bool false)) true P o fr M K = K (putO fr o.dst undefL) M := condB_f
theorem guardO_not {w : Bool} : guardO (.val (.bool (!t))) w P o fr M K = guardO (.val (.bool t)) (!w) P o fr M K := by cases t <;> cases w <;> rfl
theorem guardO_u {w : Bool} : guardO (.tup []) w P o fr M K = K (putO fr o.dst undefL) M := (rfl)
theorem guardO_ud {w : Bool} : guardO undefL w P o fr M K = K (putO fr o.dst undefL) M := (rfl)
theorem guardO_dtt [Decidable p] (h : p) : guardO (.val (.bool (decide p))) true P o fr M K = EvOp P o fr M K := by rw [decide_eq_true h, guardO_tt]
theorem guardO_dtf [Decidable p] (h : p) : guardO (.val (.bool (decide p))) false P o fr M K = K (putO fr o.dst undefL) M := by rw [decide_eq_true h, guardO_tf]
theorem guardO_dft [Decidable p] (h : ¬ p) : guardO (.val (.bool (decide p))) true P o fr M K = K (putO fr o.dst undefL) M := by rw [decide_eq_false h, guardO_ft]
theorem guardO_dff [Decidable p] (h : ¬ p) : guardO (.val (.bool (decide p))) false P o fr M K = EvOp P o fr M K := by rw [decide_eq_false h, guardO_ff]
end
theorem andK_d {c A : Prop} (h : c) : andK c A = A := by simp [andK, h]
theorem andK_t : andK True A = A := by simp [andK]
theorem sopK_s {d : Nat} {v : LV} {c : Prop} : sopK (some (d, v, c)) fr M K = andK c (K (upd fr d v) M) := (rfl)
theorem aopK_s {d : Nat} {v : Nat → LV} {blk : Blk} {c : Prop} : aopK (some (d, v, blk, c)) fr M K = andK c (K (upd fr d (v M.length)) (M ++ [some blk])) := (rfl)
theorem memK_s {A : Mem → Prop} : memK (some M) A = A M := (rfl)
theorem appK_s {A : LV → Mem → Prop} {v : LV} : appK (some (v, M)) A = A v M := (rfl)
theorem storeK_v {n t off : Nat} {v : Value} {A : Mem → Prop} : storeK n (.ptr t off) (.val v) M A = andK (1 = n) (memK (setCells M t off [.val v]) A) := (rfl)
theorem storeK_r {n t off a b c : Nat} {A : Mem → Prop} : storeK n (.ptr t off) (.ref a b c) M A = andK (1 = n) (memK (setCells M t off [.ref a b c]) A) := (rfl)
theorem storeK_p {n t off a b : Nat} {A : Mem → Prop} : storeK n (.ptr t off) (.ptr a b) M A = andK (1 = n) (memK (setCells M t off [.ptr a b]) A) := (rfl)
theorem storeK_m {n t off a : Nat} {A : Mem → Prop} : storeK n (.ptr t off) (.mp a) M A = andK (1 = n) (memK (setCells M t off [.mp a]) A) := (rfl)
theorem storeK_f {n t off : Nat} {f : FuncId} {c : List (Nat × Nat)} {A : Mem → Prop} : storeK n (.ptr t off) (.clo f c) M A = andK (1 = n) (memK (setCells M t off [.clo f c]) A) := (rfl)
theorem storeK_a {n t off : Nat} {cs : List LV} {A : Mem → Prop} : storeK n (.ptr t off) (.agg cs) M A = andK (cs.length = n) (memK (setCells M t off cs) A) := (rfl)

/-! ### Operations -/
theorem ev_sop {o : AOp} (h : o.kind = 0) : EvOp P o fr M K = sopK (sop o fr M) fr M K := by
  have hn := kind0_aop (fr := fr) (M := M) h
  have hs : o.special = false := kind_ne2 (by rw [h]; decide)
  apply propext
  rw [evop_plain hs, hn]
  cases hh : sop o fr M with
  | none => simp [sopK]
  | some r => obtain ⟨d, v, c⟩ := r; simp [sopK, andK]
theorem ev_aop {o : AOp} (h : o.kind = 1) : EvOp P o fr M K = aopK (aop o fr M) fr M K := by
  have hn := kind1_sop (fr := fr) (M := M) h
  have hs : o.special = false := kind_ne2 (by rw [h]; decide)
  apply propext
  rw [evop_plain hs, hn]
  cases hh : aop o fr M with
  | none => simp [aopK]
  | some r => obtain ⟨d, v, b, c⟩ := r; simp [aopK, andK]
theorem ev_store {n : Nat} {a x : Opd} : EvOp P (.store n a x) fr M K = storeK n (a.ev fr) (x.ev fr) M (K fr) := by
  simp only [EvOp, storeK, andK, memK]
  rfl
theorem ev_append {d e b : Nat} {s x : Opd} : EvOp P (.append d e b s x) fr M K = appendK e b (s.ev fr) (x.ev fr) M (putK K fr (some d)) := by
  simp only [EvOp, appendK, andK, appK, and_assoc, putK, putO]
  rfl
theorem ev_copy {d e : Nat} {s x : Opd} : EvOp P (.copy d e s x) fr M K = copyK e (s.ev fr) (x.ev fr) M (cntK K fr d) := by
  simp only [EvOp, copyK, memK, cntK]
  rfl
theorem ev_clear {d : Option Nat} {e : Nat} {z : List LV} {x : Opd} : EvOp P (.clear d e z x) fr M K = clearK e z (x.ev fr) M (putK K fr d undefL) := by
  simp only [EvOp, clearK, andK, memK, putK]
  rfl
theorem clearK_r {e t off m : Nat} {z : List LV} {A : Mem → Prop} : clearK e z (.ref t off m) M A = andK (z.length = e) (memK (setCells M t off (List.replicate m z).flatten) A) := (rfl)
theorem ev_call {d : Option Nat} {f : FuncId} {args : List Opd} : EvOp P (.call d f args) fr M K = callK P f (args.map (·.ev fr)) M (putK K fr d) := (rfl)
theorem ev_callV {d : Option Nat} {x : Opd} {args : List Opd} : EvOp P (.callV d x args) fr M K = callVK P (x.ev fr) (args.map (·.ev fr)) M (putK K fr d) := by
  simp only [EvOp, callVK, callK, putK]
  rfl
theorem callVK_c {f : FuncId} {caps : List (Nat × Nat)} {args : List LV} {A : LV → Mem → Prop} : callVK P (.clo f caps) args M A = callK P f (args ++ caps.map fun p => .ptr p.1 p.2) M A := (rfl)
theorem evg_n {o : AOp} : EvG P (none, o) fr M K = EvOp P o fr M K := (rfl)
theorem evg_s {s : Nat} {w : Bool} {o : AOp} : EvG P (some (s, w), o) fr M K = guardO (fr s) w P o fr M K := by
  simp only [EvG, guardO, guardV, condB]
  cases hs : fr s with
  | val v => cases v <;> simp
  | tup vs => cases vs <;> rfl
  | _ => rfl
theorem evops_n : EvOps P [] fr M K = K fr M := (rfl)
theorem evops_c {g : GOp} {r : List GOp} : EvOps P (g :: r) fr M K = EvG P g fr M (opsK P r K) := (rfl)
theorem opsK_r {r : List GOp} : opsK P r K fr M = EvOps P r fr M K := (rfl)
theorem putK_r {d : Option Nat} {v : LV} : putK K fr d v M = K (putO fr d v) M := (rfl)
theorem cntK_r {d n : Nat} : cntK K fr d n M = K (upd fr d (.I (n : Int))) M := (rfl)
theorem putO_s {d : Nat} {v : LV} : putO fr (some d) v = upd fr d v := (rfl)
theorem putO_n {v : LV} : putO fr none v = fr := (rfl)
theorem upd_at {d i : Nat} {v : LV} : upd fr d v i = if i = d then v else fr i := (rfl)
theorem ev_t {i : Nat} : (Opd.t i).ev fr = fr i := (rfl)
theorem ev_c {v : LV} : (Opd.c v).ev fr = v := (rfl)

/-! ### Code -/
theorem evc_skip : EvC P .skip fr M Q = Q .normal fr M := (rfl)
theorem evc_ops {l : List GOp} : EvC P (.ops l) fr M Q = EvOps P l fr M (Q .normal) := (rfl)
theorem evc_draw {l : List DOp} : EvC P (.draw l) fr M Q = EvD P l fr M [] (Q .normal) := (rfl)
theorem evc_seq {a b : ACode} : EvC P (.seq a b) fr M Q = EvC P a fr M (seqK P b Q) := (rfl)
theorem seqK_n {b : ACode} : seqK P b Q .normal fr M = EvC P b fr M Q := (rfl)
theorem seqK_e {b : ACode} {i : Nat} : seqK P b Q (.exit i) fr M = Q (.exit i) fr M := (rfl)
theorem seqK_r {b : ACode} : seqK P b Q .ret fr M = Q .ret fr M := (rfl)
theorem evc_cond {c : Opd} {a b : ACode} : EvC P (.cond c a b) fr M Q = condC (c.ev fr) P a b fr M Q := by
  simp only [EvC, condC, condV, condB]
  rfl
theorem evc_block {id : Nat} {a : ACode} : EvC P (.block id a) fr M Q = EvC P a fr M (blockK id Q) := (rfl)
theorem evc_exit {id : Nat} : EvC P (.exit id) fr M Q = Q (.exit id) fr M := (rfl)
theorem evc_ret : EvC P .ret fr M Q = Q .ret fr M := (rfl)
theorem thenK_n : thenK K Q .normal fr M = K fr M := (rfl)
theorem thenK_e {i : Nat} : thenK K Q (.exit i) fr M = Q (.exit i) fr M := (rfl)
theorem thenK_r : thenK K Q .ret fr M = Q .ret fr M := (rfl)
theorem endQ_r {res : List ARes} {N0 N : Mem} {v : LV} : endQ res N0 N v .ret fr M = ∃ ve, resV fr M res = some ve ∧ Cmp N0 M ve N v := by simp [endQ]
theorem endQ_n {res : List ARes} {N0 N : Mem} {v : LV} : endQ res N0 N v .normal fr M = ∃ ve, resV fr M res = some ve ∧ Cmp N0 M ve N v := by simp [endQ]
theorem endR_r {res : List ARes} {Post : LV → Mem → Prop} : endR res Post .ret fr M = ∃ ve, resV fr M res = some ve ∧ postK Post ve M := by simp [endR, postK]
theorem endR_n {res : List ARes} {Post : LV → Mem → Prop} : endR res Post .normal fr M = ∃ ve, resV fr M res = some ve ∧ postK Post ve M := by simp [endR, postK]
theorem blockK_n {id : Nat} : blockK id Q .normal fr M = Q .normal fr M := (rfl)
theorem blockK_e {id i : Nat} : blockK id Q (.exit i) fr M = if i = id then Q .normal fr M else Q (.exit i) fr M := (rfl)
theorem blockK_r {id : Nat} : blockK id Q .ret fr M = Q .ret fr M := (rfl)

theorem ev_loop {a : ACode} (I : Nat → Fr → Mem → Prop) (m : Nat) (h0 : I m fr M) (h : ∀ m fr M, I m fr M → EvC P a fr M (thenK (rndK m I) Q)) : EvC P (.loop a) fr M Q := ⟨I, m, h0, h⟩

/-- A function's text, by the rules. -/
theorem calls_run {f : FuncId} {fn : AFn} {args : List LV} {N : Mem} {v : LV} (hp : prepF P f = some fn) (hl : args.length = fn.np) (h : EvC P fn.body (fun i => args.getD i undefL) M (endQ fn.res M N v)) : CallsTo P f args M v N :=
  calls_of_ev hp ⟨hl, h⟩

theorem callsR_run {f : FuncId} {fn : AFn} {args : List LV} {Post : LV → Mem → Prop} (hp : prepF P f = some fn) (hl : args.length = fn.np) (h : EvC P fn.body (fun i => args.getD i undefL) M (endR fn.res Post)) : CallsR P f args M Post :=
  callsR_of_ev hp ⟨hl, h⟩

/-! ### Regions that draw -/
theorem evd_n {lg : List (Option Nat)} : EvD P [] fr M lg K = K fr M := (rfl)
theorem evd_0 {g : GOp} {msk unl : List Nat} {r : List DOp} {lg : List (Option Nat)} (h : g.2.kind = 0) :
    EvD P (⟨g, msk, unl⟩ :: r) fr M lg K = EvG P g fr M (evdK P r (lg ++ [keyOf g.2 fr]) K) := by
  simp only [EvD, h, if_true]; rfl
theorem evd_1 {g : GOp} {msk unl : List Nat} {r : List DOp} {lg : List (Option Nat)} (h : g.2.kind = 1) :
    EvD P (⟨g, msk, unl⟩ :: r) fr M lg K = EvG P g fr M (evd1K P r lg M.length K) := by
  simp only [EvD, h, if_true, if_neg (show ¬ (1 : Nat) = 0 by omega)]; rfl
theorem evd_2 {g : GOp} {msk unl : List Nat} {r : List DOp} {lg : List (Option Nat)} (h : g.2.kind = 2) :
    EvD P (⟨g, msk, unl⟩ :: r) fr M lg K = EvG P g fr (maskM (selL msk lg) M) (evd2K P r lg M (selL msk lg) (selL unl lg) K) := by
  simp only [EvD, h, if_neg (show ¬ (2 : Nat) = 1 by omega), if_neg (show ¬ (2 : Nat) = 0 by omega)]; rfl
theorem evdK_r {r : List DOp} {lg : List (Option Nat)} : evdK P r lg K fr M = EvD P r fr M lg K := (rfl)
theorem evd1K_r {r : List DOp} {lg : List (Option Nat)} {n : Nat} : evd1K P r lg n K fr M = EvD P r fr M (lg ++ [if M.length = n then none else some n]) K := (rfl)
theorem evd2K_r {r : List DOp} {lg : List (Option Nat)} {N : Mem} {ks us : List Nat} : evd2K P r lg M ks us K fr N = andK (KeepL us M (unmask M ks N)) (EvD P r fr (unmask M ks N) (lg ++ [none]) K) := (rfl)

theorem ifo_pos {α : Type} {c : Prop} [Decidable c] {a : Option α} (h : c) : (if c then a else none) = a := if_pos h
theorem selL_n {lg : List (Option Nat)} : selL [] lg = [] := (rfl)
theorem selL_c {p : Nat} {ps : List Nat} {lg : List (Option Nat)} : selL (p :: ps) lg = (match (lg[p]?).join with | some k => k :: selL ps lg | none => selL ps lg) := by
  unfold selL
  rw [List.filterMap_cons]
  cases (lg[p]?).join <;> rfl
theorem unmask_c {k : Nat} {ks : List Nat} {N : Mem} : unmask M (k :: ks) N = unmask M ks (match M[k]? with | some (some b) => N.set k (some b) | _ => N) := (rfl)
theorem keepL_c {k : Nat} {ks : List Nat} {N : Mem} : KeepL (k :: ks) M N = ((∀ b, M[k]? = some (some b) → N[k]? = some (some b)) ∧ KeepL ks M N) := by
  simp [KeepL]
theorem keep1_refl {o : Option (Option Blk)} : (∀ b, o = some (some b) → o = some (some b)) = True := by simp
theorem join_ss {α : Type} {x : Option α} : (some x).join = x := (rfl)
theorem add1_ne {n : Nat} : (n + 1 = n) = False := by simp
theorem maskM_n : maskM [] M = M := (rfl)
theorem maskM_c {k : Nat} {ks : List Nat} : maskM (k :: ks) M = maskM ks (M.set k none) := (rfl)
theorem unmask_n {N : Mem} : unmask M [] N = N := (rfl)
theorem keepL_n {N : Mem} : KeepL [] M N = True := by simp [KeepL]
theorem keepL_refl {ks : List Nat} : KeepL ks M M = True := by simp [KeepL]
theorem keepL_app {ks : List Nat} {L : Mem} : KeepL ks M (M ++ L) = True := by
  simp only [KeepL, eq_iff_iff, iff_true]
  intro k _ b h
  have : k < M.length := Live.lt h
  rw [List.getElem?_append_left this]; exact h

/-! ### Memory -/
theorem wrap_id {x : Int} (h : -9223372036854775808 ≤ x ∧ x ≤ 9223372036854775807) : IntKind.i64.wrap x = x := IntWalk.i64_in x h
def getRowL (L : Mem) (t : Nat) : Option (List LV) := getRow L t
def getEszL (L : Mem) (t : Nat) : Option Nat := getEsz L t
def getCellL (L : Mem) (t o : Nat) : Option LV := getCell L t o
def getCellsL (L : Mem) (t o n : Nat) : Option (List LV) := getCells L t o n
def setCellsL (L : Mem) (t o : Nat) (vs : List LV) : Option Mem := setCells L t o vs
theorem getRow_app {L : Mem} {t : Nat} (h : t < M.length) : getRow (M ++ L) t = getRow M t := by unfold getRow; rw [List.getElem?_append_left h]
theorem getCell_app {L : Mem} {t o : Nat} (h : t < M.length) : getCell (M ++ L) t o = getCell M t o := by unfold getCell; rw [getRow_app h]
theorem getCells_app {L : Mem} {t o n : Nat} (h : t < M.length) : getCells (M ++ L) t o n = getCells M t o n := by unfold getCells; rw [getRow_app h]
theorem at_0 {L : Mem} : (M ++ L)[M.length]? = L[0]? := by rw [List.getElem?_append_right (Nat.le_refl _), Nat.sub_self]
theorem at_j {L : Mem} {j : Nat} : (M ++ L)[M.length + j]? = L[j]? := by rw [List.getElem?_append_right (Nat.le_add_right _ _), Nat.add_sub_cancel_left]
theorem set_0 {L : Mem} {x : Option Blk} : (M ++ L).set M.length x = M ++ L.set 0 x := by simp
theorem set_j {L : Mem} {j : Nat} {x : Option Blk} : (M ++ L).set (M.length + j) x = M ++ L.set j x := by simp
theorem len_app {L : Mem} : (M ++ L).length = M.length + L.length := by simp
theorem row_0 {L : Mem} : getRow (M ++ L) M.length = getRowL L 0 := by unfold getRowL getRow; rw [at_0]
theorem row_j {L : Mem} {j : Nat} : getRow (M ++ L) (M.length + j) = getRowL L j := by unfold getRowL getRow; rw [at_j]
theorem esz_0 {L : Mem} : getEsz (M ++ L) M.length = getEszL L 0 := by unfold getEszL getEsz; rw [at_0]
theorem esz_j {L : Mem} {j : Nat} : getEsz (M ++ L) (M.length + j) = getEszL L j := by unfold getEszL getEsz; rw [at_j]
theorem cell_0 {L : Mem} {o : Nat} : getCell (M ++ L) M.length o = getCellL L 0 o := by unfold getCellL getCell; rw [row_0]; rfl
theorem cell_j {L : Mem} {j o : Nat} : getCell (M ++ L) (M.length + j) o = getCellL L j o := by unfold getCellL getCell; rw [row_j]; rfl
theorem cells_0 {L : Mem} {o n : Nat} : getCells (M ++ L) M.length o n = getCellsL L 0 o n := by unfold getCellsL getCells; rw [row_0]; rfl
theorem cells_j {L : Mem} {j o n : Nat} : getCells (M ++ L) (M.length + j) o n = getCellsL L j o n := by unfold getCellsL getCells; rw [row_j]; rfl
theorem setC_0 {L : Mem} {o : Nat} {vs : List LV} : setCells (M ++ L) M.length o vs = (setCellsL L 0 o vs).map (M ++ ·) := by
  unfold setCellsL setCells; rw [at_0]
  split
  · split
    · simp only [Option.map_some, set_0]
    · rfl
  · rfl
theorem setC_j {L : Mem} {j o : Nat} {vs : List LV} : setCells (M ++ L) (M.length + j) o vs = (setCellsL L j o vs).map (M ++ ·) := by
  unfold setCellsL setCells; rw [at_j]
  split
  · split
    · simp only [Option.map_some, set_j]
    · rfl
  · rfl
theorem rowL_z {cs : List LV} {w : Bool} {e : Nat} {L : Mem} : getRowL (some (.row cs w e) :: L) 0 = some cs := (rfl)
theorem rowL_s {x : Option Blk} {L : Mem} {j : Nat} : getRowL (x :: L) (j + 1) = getRowL L j := (rfl)
theorem eszL_z {cs : List LV} {w : Bool} {e : Nat} {L : Mem} : getEszL (some (.row cs w e) :: L) 0 = some e := (rfl)
theorem eszL_s {x : Option Blk} {L : Mem} {j : Nat} : getEszL (x :: L) (j + 1) = getEszL L j := (rfl)
theorem cellL_z {cs : List LV} {w : Bool} {e o : Nat} {L : Mem} : getCellL (some (.row cs w e) :: L) 0 o = cs[o]? := (rfl)
theorem cellL_s {x : Option Blk} {L : Mem} {j o : Nat} : getCellL (x :: L) (j + 1) o = getCellL L j o := (rfl)
theorem cellsL_z {cs : List LV} {w : Bool} {e o n : Nat} {L : Mem} : getCellsL (some (.row cs w e) :: L) 0 o n = if o + n ≤ cs.length then some ((cs.drop o).take n) else none := (rfl)
theorem cellsL_s {x : Option Blk} {L : Mem} {j o n : Nat} : getCellsL (x :: L) (j + 1) o n = getCellsL L j o n := (rfl)
theorem setL_z {cs vs : List LV} {e o : Nat} {L : Mem} : setCellsL (some (.row cs true e) :: L) 0 o vs = if o + vs.length ≤ cs.length then some (some (.row (splice cs o vs) true e) :: L) else none := (rfl)
theorem setL_s {x : Option Blk} {L : Mem} {j o : Nat} {vs : List LV} : setCellsL (x :: L) (j + 1) o vs = (setCellsL L j o vs).map (x :: ·) := by
  unfold setCellsL setCells
  simp only [List.getElem?_cons_succ, List.set_cons_succ]
  cases hL : L[j]? with
  | none => rfl
  | some o' => cases o' with
    | none => rfl
    | some b => cases b with
      | map => rfl
      | row cs w e => cases w with
        | false => rfl
        | true => simp only; split <;> rfl
theorem spl_10 {a x : LV} : splice [a] 0 [x] = [x] := (rfl)
theorem spl_20 {a b x : LV} : splice [a, b] 0 [x] = [x, b] := (rfl)
theorem spl_21 {a b x : LV} : splice [a, b] 1 [x] = [a, x] := (rfl)
theorem spl_30 {a b c x : LV} : splice [a, b, c] 0 [x] = [x, b, c] := (rfl)
theorem spl_31 {a b c x : LV} : splice [a, b, c] 1 [x] = [a, x, c] := (rfl)
theorem spl_32 {a b c x : LV} : splice [a, b, c] 2 [x] = [a, b, x] := (rfl)
theorem spl_40 {a b c d x : LV} : splice [a, b, c, d] 0 [x] = [x, b, c, d] := (rfl)
theorem spl_41 {a b c d x : LV} : splice [a, b, c, d] 1 [x] = [a, x, c, d] := (rfl)
theorem spl_42 {a b c d x : LV} : splice [a, b, c, d] 2 [x] = [a, b, x, d] := (rfl)
theorem spl_43 {a b c d x : LV} : splice [a, b, c, d] 3 [x] = [a, b, c, x] := (rfl)
theorem spl_3r {a b c x y z : LV} : splice [a, b, c] 0 [x, y, z] = [x, y, z] := (rfl)
theorem spl_4r {a b c d x y z u : LV} : splice [a, b, c, d] 0 [x, y, z, u] = [x, y, z, u] := (rfl)
theorem spl_2r {a b x y : LV} : splice [a, b] 0 [x, y] = [x, y] := (rfl)
theorem spl_5r {a0 a1 a2 a3 a4 x0 x1 x2 x3 x4 : LV} : splice [a0, a1, a2, a3, a4] 0 [x0, x1, x2, x3, x4] = [x0, x1, x2, x3, x4] := (rfl)
theorem spl_50 {a0 a1 a2 a3 a4 x : LV} : splice [a0, a1, a2, a3, a4] 0 [x] = [x, a1, a2, a3, a4] := (rfl)
theorem spl_51 {a0 a1 a2 a3 a4 x : LV} : splice [a0, a1, a2, a3, a4] 1 [x] = [a0, x, a2, a3, a4] := (rfl)
theorem spl_52 {a0 a1 a2 a3 a4 x : LV} : splice [a0, a1, a2, a3, a4] 2 [x] = [a0, a1, x, a3, a4] := (rfl)
theorem spl_53 {a0 a1 a2 a3 a4 x : LV} : splice [a0, a1, a2, a3, a4] 3 [x] = [a0, a1, a2, x, a4] := (rfl)
theorem spl_54 {a0 a1 a2 a3 a4 x : LV} : splice [a0, a1, a2, a3, a4] 4 [x] = [a0, a1, a2, a3, x] := (rfl)
theorem spl_6r {a0 a1 a2 a3 a4 a5 x0 x1 x2 x3 x4 x5 : LV} : splice [a0, a1, a2, a3, a4, a5] 0 [x0, x1, x2, x3, x4, x5] = [x0, x1, x2, x3, x4, x5] := (rfl)
theorem spl_60 {a0 a1 a2 a3 a4 a5 x : LV} : splice [a0, a1, a2, a3, a4, a5] 0 [x] = [x, a1, a2, a3, a4, a5] := (rfl)
theorem spl_61 {a0 a1 a2 a3 a4 a5 x : LV} : splice [a0, a1, a2, a3, a4, a5] 1 [x] = [a0, x, a2, a3, a4, a5] := (rfl)
theorem spl_62 {a0 a1 a2 a3 a4 a5 x : LV} : splice [a0, a1, a2, a3, a4, a5] 2 [x] = [a0, a1, x, a3, a4, a5] := (rfl)
theorem spl_63 {a0 a1 a2 a3 a4 a5 x : LV} : splice [a0, a1, a2, a3, a4, a5] 3 [x] = [a0, a1, a2, x, a4, a5] := (rfl)
theorem spl_64 {a0 a1 a2 a3 a4 a5 x : LV} : splice [a0, a1, a2, a3, a4, a5] 4 [x] = [a0, a1, a2, a3, x, a5] := (rfl)
theorem spl_65 {a0 a1 a2 a3 a4 a5 x : LV} : splice [a0, a1, a2, a3, a4, a5] 5 [x] = [a0, a1, a2, a3, a4, x] := (rfl)
theorem spl_7r {a0 a1 a2 a3 a4 a5 a6 x0 x1 x2 x3 x4 x5 x6 : LV} : splice [a0, a1, a2, a3, a4, a5, a6] 0 [x0, x1, x2, x3, x4, x5, x6] = [x0, x1, x2, x3, x4, x5, x6] := (rfl)
theorem spl_70 {a0 a1 a2 a3 a4 a5 a6 x : LV} : splice [a0, a1, a2, a3, a4, a5, a6] 0 [x] = [x, a1, a2, a3, a4, a5, a6] := (rfl)
theorem spl_71 {a0 a1 a2 a3 a4 a5 a6 x : LV} : splice [a0, a1, a2, a3, a4, a5, a6] 1 [x] = [a0, x, a2, a3, a4, a5, a6] := (rfl)
theorem spl_72 {a0 a1 a2 a3 a4 a5 a6 x : LV} : splice [a0, a1, a2, a3, a4, a5, a6] 2 [x] = [a0, a1, x, a3, a4, a5, a6] := (rfl)
theorem spl_73 {a0 a1 a2 a3 a4 a5 a6 x : LV} : splice [a0, a1, a2, a3, a4, a5, a6] 3 [x] = [a0, a1, a2, x, a4, a5, a6] := (rfl)
theorem spl_74 {a0 a1 a2 a3 a4 a5 a6 x : LV} : splice [a0, a1, a2, a3, a4, a5, a6] 4 [x] = [a0, a1, a2, a3, x, a5, a6] := (rfl)
theorem spl_75 {a0 a1 a2 a3 a4 a5 a6 x : LV} : splice [a0, a1, a2, a3, a4, a5, a6] 5 [x] = [a0, a1, a2, a3, a4, x, a6] := (rfl)
theorem spl_76 {a0 a1 a2 a3 a4 a5 a6 x : LV} : splice [a0, a1, a2, a3, a4, a5, a6] 6 [x] = [a0, a1, a2, a3, a4, a5, x] := (rfl)
theorem spl_8r {a0 a1 a2 a3 a4 a5 a6 a7 x0 x1 x2 x3 x4 x5 x6 x7 : LV} : splice [a0, a1, a2, a3, a4, a5, a6, a7] 0 [x0, x1, x2, x3, x4, x5, x6, x7] = [x0, x1, x2, x3, x4, x5, x6, x7] := (rfl)
theorem spl_80 {a0 a1 a2 a3 a4 a5 a6 a7 x : LV} : splice [a0, a1, a2, a3, a4, a5, a6, a7] 0 [x] = [x, a1, a2, a3, a4, a5, a6, a7] := (rfl)
theorem spl_81 {a0 a1 a2 a3 a4 a5 a6 a7 x : LV} : splice [a0, a1, a2, a3, a4, a5, a6, a7] 1 [x] = [a0, x, a2, a3, a4, a5, a6, a7] := (rfl)
theorem spl_82 {a0 a1 a2 a3 a4 a5 a6 a7 x : LV} : splice [a0, a1, a2, a3, a4, a5, a6, a7] 2 [x] = [a0, a1, x, a3, a4, a5, a6, a7] := (rfl)
theorem spl_83 {a0 a1 a2 a3 a4 a5 a6 a7 x : LV} : splice [a0, a1, a2, a3, a4, a5, a6, a7] 3 [x] = [a0, a1, a2, x, a4, a5, a6, a7] := (rfl)
theorem spl_84 {a0 a1 a2 a3 a4 a5 a6 a7 x : LV} : splice [a0, a1, a2, a3, a4, a5, a6, a7] 4 [x] = [a0, a1, a2, a3, x, a5, a6, a7] := (rfl)
theorem spl_85 {a0 a1 a2 a3 a4 a5 a6 a7 x : LV} : splice [a0, a1, a2, a3, a4, a5, a6, a7] 5 [x] = [a0, a1, a2, a3, a4, x, a6, a7] := (rfl)
theorem spl_86 {a0 a1 a2 a3 a4 a5 a6 a7 x : LV} : splice [a0, a1, a2, a3, a4, a5, a6, a7] 6 [x] = [a0, a1, a2, a3, a4, a5, x, a7] := (rfl)
theorem spl_87 {a0 a1 a2 a3 a4 a5 a6 a7 x : LV} : splice [a0, a1, a2, a3, a4, a5, a6, a7] 7 [x] = [a0, a1, a2, a3, a4, a5, a6, x] := (rfl)
theorem splice_1 {cs : List LV} {o : Nat} {v : LV} (h : o < cs.length) : splice cs o [v] = cs.set o v := by
  unfold splice
  rw [List.set_eq_take_append_cons_drop, if_pos h]; simp
end
end Go.Ab

/- The rules for each operation, printed by a program. -/
namespace Go.Ab
open Go
section
variable {P : Program} {fr : Fr} {M : Mem} {K : Fr → Mem → Prop}
theorem ev_mv (d : Nat) (x : Opd) : EvOp P (.mv d x) fr M K = sopK (some (d, x.ev fr, True)) fr M K := ev_sop rfl
theorem ev_pick (d : Nat) (c a b : Opd) : EvOp P (.pick d c a b) fr M K = sopK (match c.ev fr with | .val (.bool t) => some (d, (if t then a.ev fr else b.ev fr), True) | _ => none) fr M K := ev_sop rfl
theorem ev_bin (d : Nat) (op : BinOp) (x y : Opd) : EvOp P (.bin d op x y) fr M K = sopK ((binV op (x.ev fr) (y.ev fr)).map fun (v, c) => (d, v, c)) fr M K := ev_sop rfl
theorem ev_eqs (d : Nat) (ng : Bool) (n : Nat) (x y : Opd) : EvOp P (.eqs d ng n x y) fr M K = sopK ((eqV ng n (x.ev fr) (y.ev fr)).map fun v => (d, v, True)) fr M K := ev_sop rfl
theorem ev_eqb (d : Nat) (ng : Bool) (x y : Opd) : EvOp P (.eqb d ng x y) fr M K = sopK ((eqoV ng x y fr).map fun v => (d, v, True)) fr M K := ev_sop rfl
theorem ev_un (d : Nat) (op : UnOp) (x : Opd) : EvOp P (.un d op x) fr M K = sopK ((unV op (x.ev fr)).map fun v => (d, v, True)) fr M K := ev_sop rfl
theorem ev_conv (d : Nat) (k : IntKind) (x : Opd) : EvOp P (.conv d k x) fr M K = sopK (match x.ev fr with | .val (.int _ n) => some (d, .val (.int k (k.wrap n)), True) | _ => none) fr M K := ev_sop rfl
theorem ev_build (d : Nat) (z : List LV) (ps : List (Nat × Nat × Opd)) : EvOp P (.build d z ps) fr M K = sopK ((fillC z (ps.map fun (o, n, x) => (o, n, x.ev fr))).map fun cs => (d, .agg cs, True)) fr M K := ev_sop rfl
theorem ev_load1 (d : Nat) (x : Opd) : EvOp P (.load1 d x) fr M K = sopK (match x.ev fr with | .ptr t off => (getCell M t off).map fun v => (d, v, True) | _ => none) fr M K := ev_sop rfl
theorem ev_loadN (d n : Nat) (x : Opd) : EvOp P (.loadN d n x) fr M K = sopK (match x.ev fr with | .ptr t off => (getCells M t off n).map fun cs => (d, .agg cs, True) | _ => none) fr M K := ev_sop rfl
theorem ev_nilck (d : Nat) (x : Opd) : EvOp P (.nilck d x) fr M K = sopK (match x.ev fr with | .ptr t off => some (d, .ptr t off, True) | _ => none) fr M K := ev_sop rfl
theorem ev_mkf (d : Nat) (f : FuncId) (cs : List Opd) : EvOp P (.mkf d f cs) fr M K = sopK ((capOf cs fr).map fun cs => (d, .clo f cs, True)) fr M K := ev_sop rfl
theorem ev_slS (d e : Nat) (x : Opd) (lo hi : Option Opd) : EvOp P (.slS d e x lo hi) fr M K = sopK (sop (.slS d e x lo hi) fr M) fr M K := ev_sop rfl
theorem ev_slA (d n e : Nat) (x : Opd) (lo hi : Option Opd) : EvOp P (.slA d n e x lo hi) fr M K = sopK (sop (.slA d n e x lo hi) fr M) fr M K := ev_sop rfl
theorem ev_slT (d : Nat) (x : Opd) (lo hi : Option Opd) : EvOp P (.slT d x lo hi) fr M K = sopK (sop (.slT d x lo hi) fr M) fr M K := ev_sop rfl
theorem ev_fieldAddr (d : Nat) (x : Opd) (o : Nat) : EvOp P (.fieldAddr d x o) fr M K = sopK (match x.ev fr with | .ptr t o2 => some (d, .ptr t (o2 + o), True) | _ => none) fr M K := ev_sop rfl
theorem ev_field (d : Nat) (x : Opd) (o : Nat) (n : Option Nat) : EvOp P (.field d x o n) fr M K = sopK (match x.ev fr with
    | .agg cs => match n with
      | none => (cs[o]?).map fun v => (d, v, True)
      | some n => if o + n ≤ cs.length then some (d, .agg ((cs.drop o).take n), True) else none
    | _ => none) fr M K := ev_sop rfl
theorem ev_idxS (d e : Nat) (x i : Opd) : EvOp P (.idxS d e x i) fr M K = sopK (match x.ev fr, intV (i.ev fr) with
    | .ref t off n, some i => some (d, .ptr t (off + i.toNat * e), 0 ≤ i ∧ i < n)
    | _, _ => none) fr M K := ev_sop rfl
theorem ev_idxA (d n e : Nat) (x i : Opd) : EvOp P (.idxA d n e x i) fr M K = sopK (match x.ev fr, intV (i.ev fr) with
    | .ptr t off, some i => some (d, .ptr t (off + i.toNat * e), 0 ≤ i ∧ i < n)
    | _, _ => none) fr M K := ev_sop rfl
theorem ev_index (d n e : Nat) (ag : Bool) (x i : Opd) : EvOp P (.index d n e ag x i) fr M K = sopK (match x.ev fr, intV (i.ev fr) with
    | .agg cs, some i => if ag then some (d, .agg ((cs.drop (i.toNat * e)).take e), 0 ≤ i ∧ i < n ∧ i.toNat * e + e ≤ cs.length)
      else match cs[i.toNat * e]? with
        | some v => some (d, v, 0 ≤ i ∧ i < n)
        | none => none
    | _, _ => none) fr M K := ev_sop rfl
theorem ev_idxT (d : Nat) (x i : Opd) : EvOp P (.idxT d x i) fr M K = sopK (match x.ev fr, intV (i.ev fr) with
    | .val (.string s), some i => some (d, .val (.int .u8 ((s.data.toList.getD i.toNat 0).toNat : Int)), 0 ≤ i ∧ i < s.size)
    | _, _ => none) fr M K := ev_sop rfl
theorem ev_lookup (d : Nat) (m k : Opd) (z : Value) (ok : Bool) : EvOp P (.lookup d m k z ok) fr M K = sopK (sop (.lookup d m k z ok) fr M) fr M K := ev_sop rfl
theorem ev_extract (d : Nat) (x : Opd) (i : Nat) : EvOp P (.extract d x i) fr M K = sopK (match x.ev fr with | .tup vs => (vs[i]?).map fun v => (d, v, True) | _ => none) fr M K := ev_sop rfl
theorem ev_len (d : Nat) (x : Opd) : EvOp P (.len d x) fr M K = sopK ((lenV (x.ev fr)).map fun n => (d, .I n, True)) fr M K := ev_sop rfl
theorem ev_lenT (d : Nat) (x : Opd) : EvOp P (.lenT d x) fr M K = sopK ((lenTV (x.ev fr)).map fun n => (d, .I n, True)) fr M K := ev_sop rfl
theorem ev_mm (d : Nat) (mx : Bool) (xs : List Opd) : EvOp P (.mm d mx xs) fr M K = sopK ((maxV mx (xs.map (·.ev fr))).map fun v => (d, v, True)) fr M K := ev_sop rfl
theorem ev_any (d : Nat) : EvOp P (.any d) fr M K = sopK (some (d, .junk, True)) fr M K := ev_sop rfl
theorem ev_box (d : Nat) (x : Opd) : EvOp P (.box d x) fr M K = aopK ((x.ev fr).cells.map fun cs => (d, (.ptr · 0), .row cs true 0, True)) fr M K := ev_aop rfl
theorem ev_alloc (d : Nat) (z : List LV) : EvOp P (.alloc d z) fr M K = aopK (some (d, (.ptr · 0), .row z true 0, True)) fr M K := ev_aop rfl
theorem ev_buildSl (d n e : Nat) (z : List LV) (ps : List (Nat × Nat × Opd)) : EvOp P (.buildSl d n e z ps) fr M K = aopK ((fillC z (ps.map fun (o, n, x) => (o, n, x.ev fr))).map fun cs => (d, (.ref · 0 n), .row cs true e, True)) fr M K := ev_aop rfl
theorem ev_mksl (d e b : Nat) (z : List LV) (l c : Opd) : EvOp P (.mksl d e b z l c) fr M K = aopK (match intV (l.ev fr), intV (c.ev fr) with
    | some l, some c => some (d, (.ref · 0 l.toNat), .row (List.replicate l.toNat z).flatten true e, 0 ≤ l ∧ c = l ∧ (b : Int) * l ≤ 281474976710656 ∧ l ≤ 9223372036854775807)
    | _, _ => none) fr M K := ev_aop rfl
theorem ev_mkmap (d : Nat) : EvOp P (.mkmap d) fr M K = aopK (some (d, .mp, .map [], True)) fr M K := ev_aop rfl
theorem ev_sl0 (d e : Nat) (x : Opd) : EvOp P (.sl0 d e x) fr M K = aopK (match x.ev fr with
    | .ref _ _ _ | .val (.slice none 0 0) => some (d, (.ref · 0 0), .row [] true e, True)
    | _ => none) fr M K := ev_aop rfl
theorem evd_mv (d : Nat) (x : Opd) {gd : Option (Nat × Bool)} {msk unl : List Nat} {r : List DOp} {lg : List (Option Nat)} : EvD P (⟨(gd, .mv d x), msk, unl⟩ :: r) fr M lg K = EvG P (gd, .mv d x) fr M (evdK P r (lg ++ [none]) K) := evd_0 rfl
theorem evd_pick (d : Nat) (c a b : Opd) {gd : Option (Nat × Bool)} {msk unl : List Nat} {r : List DOp} {lg : List (Option Nat)} : EvD P (⟨(gd, .pick d c a b), msk, unl⟩ :: r) fr M lg K = EvG P (gd, .pick d c a b) fr M (evdK P r (lg ++ [none]) K) := evd_0 rfl
theorem evd_bin (d : Nat) (op : BinOp) (x y : Opd) {gd : Option (Nat × Bool)} {msk unl : List Nat} {r : List DOp} {lg : List (Option Nat)} : EvD P (⟨(gd, .bin d op x y), msk, unl⟩ :: r) fr M lg K = EvG P (gd, .bin d op x y) fr M (evdK P r (lg ++ [none]) K) := evd_0 rfl
theorem evd_eqs (d : Nat) (ng : Bool) (n : Nat) (x y : Opd) {gd : Option (Nat × Bool)} {msk unl : List Nat} {r : List DOp} {lg : List (Option Nat)} : EvD P (⟨(gd, .eqs d ng n x y), msk, unl⟩ :: r) fr M lg K = EvG P (gd, .eqs d ng n x y) fr M (evdK P r (lg ++ [none]) K) := evd_0 rfl
theorem evd_eqb (d : Nat) (ng : Bool) (x y : Opd) {gd : Option (Nat × Bool)} {msk unl : List Nat} {r : List DOp} {lg : List (Option Nat)} : EvD P (⟨(gd, .eqb d ng x y), msk, unl⟩ :: r) fr M lg K = EvG P (gd, .eqb d ng x y) fr M (evdK P r (lg ++ [none]) K) := evd_0 rfl
theorem evd_un (d : Nat) (op : UnOp) (x : Opd) {gd : Option (Nat × Bool)} {msk unl : List Nat} {r : List DOp} {lg : List (Option Nat)} : EvD P (⟨(gd, .un d op x), msk, unl⟩ :: r) fr M lg K = EvG P (gd, .un d op x) fr M (evdK P r (lg ++ [none]) K) := evd_0 rfl
theorem evd_conv (d : Nat) (k : IntKind) (x : Opd) {gd : Option (Nat × Bool)} {msk unl : List Nat} {r : List DOp} {lg : List (Option Nat)} : EvD P (⟨(gd, .conv d k x), msk, unl⟩ :: r) fr M lg K = EvG P (gd, .conv d k x) fr M (evdK P r (lg ++ [none]) K) := evd_0 rfl
theorem evd_build (d : Nat) (z : List LV) (ps : List (Nat × Nat × Opd)) {gd : Option (Nat × Bool)} {msk unl : List Nat} {r : List DOp} {lg : List (Option Nat)} : EvD P (⟨(gd, .build d z ps), msk, unl⟩ :: r) fr M lg K = EvG P (gd, .build d z ps) fr M (evdK P r (lg ++ [none]) K) := evd_0 rfl
theorem evd_load1 (d : Nat) (x : Opd) {gd : Option (Nat × Bool)} {msk unl : List Nat} {r : List DOp} {lg : List (Option Nat)} : EvD P (⟨(gd, .load1 d x), msk, unl⟩ :: r) fr M lg K = EvG P (gd, .load1 d x) fr M (evdK P r (lg ++ [keyOf (.load1 d x) fr]) K) := evd_0 rfl
theorem evd_loadN (d n : Nat) (x : Opd) {gd : Option (Nat × Bool)} {msk unl : List Nat} {r : List DOp} {lg : List (Option Nat)} : EvD P (⟨(gd, .loadN d n x), msk, unl⟩ :: r) fr M lg K = EvG P (gd, .loadN d n x) fr M (evdK P r (lg ++ [keyOf (.loadN d n x) fr]) K) := evd_0 rfl
theorem evd_nilck (d : Nat) (x : Opd) {gd : Option (Nat × Bool)} {msk unl : List Nat} {r : List DOp} {lg : List (Option Nat)} : EvD P (⟨(gd, .nilck d x), msk, unl⟩ :: r) fr M lg K = EvG P (gd, .nilck d x) fr M (evdK P r (lg ++ [none]) K) := evd_0 rfl
theorem evd_mkf (d : Nat) (f : FuncId) (cs : List Opd) {gd : Option (Nat × Bool)} {msk unl : List Nat} {r : List DOp} {lg : List (Option Nat)} : EvD P (⟨(gd, .mkf d f cs), msk, unl⟩ :: r) fr M lg K = EvG P (gd, .mkf d f cs) fr M (evdK P r (lg ++ [none]) K) := evd_0 rfl
theorem evd_slS (d e : Nat) (x : Opd) (lo hi : Option Opd) {gd : Option (Nat × Bool)} {msk unl : List Nat} {r : List DOp} {lg : List (Option Nat)} : EvD P (⟨(gd, .slS d e x lo hi), msk, unl⟩ :: r) fr M lg K = EvG P (gd, .slS d e x lo hi) fr M (evdK P r (lg ++ [keyOf (.slS d e x lo hi) fr]) K) := evd_0 rfl
theorem evd_slA (d n e : Nat) (x : Opd) (lo hi : Option Opd) {gd : Option (Nat × Bool)} {msk unl : List Nat} {r : List DOp} {lg : List (Option Nat)} : EvD P (⟨(gd, .slA d n e x lo hi), msk, unl⟩ :: r) fr M lg K = EvG P (gd, .slA d n e x lo hi) fr M (evdK P r (lg ++ [keyOf (.slA d n e x lo hi) fr]) K) := evd_0 rfl
theorem evd_slT (d : Nat) (x : Opd) (lo hi : Option Opd) {gd : Option (Nat × Bool)} {msk unl : List Nat} {r : List DOp} {lg : List (Option Nat)} : EvD P (⟨(gd, .slT d x lo hi), msk, unl⟩ :: r) fr M lg K = EvG P (gd, .slT d x lo hi) fr M (evdK P r (lg ++ [none]) K) := evd_0 rfl
theorem evd_fieldAddr (d : Nat) (x : Opd) (o : Nat) {gd : Option (Nat × Bool)} {msk unl : List Nat} {r : List DOp} {lg : List (Option Nat)} : EvD P (⟨(gd, .fieldAddr d x o), msk, unl⟩ :: r) fr M lg K = EvG P (gd, .fieldAddr d x o) fr M (evdK P r (lg ++ [none]) K) := evd_0 rfl
theorem evd_field (d : Nat) (x : Opd) (o : Nat) (n : Option Nat) {gd : Option (Nat × Bool)} {msk unl : List Nat} {r : List DOp} {lg : List (Option Nat)} : EvD P (⟨(gd, .field d x o n), msk, unl⟩ :: r) fr M lg K = EvG P (gd, .field d x o n) fr M (evdK P r (lg ++ [none]) K) := evd_0 rfl
theorem evd_idxS (d e : Nat) (x i : Opd) {gd : Option (Nat × Bool)} {msk unl : List Nat} {r : List DOp} {lg : List (Option Nat)} : EvD P (⟨(gd, .idxS d e x i), msk, unl⟩ :: r) fr M lg K = EvG P (gd, .idxS d e x i) fr M (evdK P r (lg ++ [none]) K) := evd_0 rfl
theorem evd_idxA (d n e : Nat) (x i : Opd) {gd : Option (Nat × Bool)} {msk unl : List Nat} {r : List DOp} {lg : List (Option Nat)} : EvD P (⟨(gd, .idxA d n e x i), msk, unl⟩ :: r) fr M lg K = EvG P (gd, .idxA d n e x i) fr M (evdK P r (lg ++ [none]) K) := evd_0 rfl
theorem evd_index (d n e : Nat) (ag : Bool) (x i : Opd) {gd : Option (Nat × Bool)} {msk unl : List Nat} {r : List DOp} {lg : List (Option Nat)} : EvD P (⟨(gd, .index d n e ag x i), msk, unl⟩ :: r) fr M lg K = EvG P (gd, .index d n e ag x i) fr M (evdK P r (lg ++ [none]) K) := evd_0 rfl
theorem evd_idxT (d : Nat) (x i : Opd) {gd : Option (Nat × Bool)} {msk unl : List Nat} {r : List DOp} {lg : List (Option Nat)} : EvD P (⟨(gd, .idxT d x i), msk, unl⟩ :: r) fr M lg K = EvG P (gd, .idxT d x i) fr M (evdK P r (lg ++ [none]) K) := evd_0 rfl
theorem evd_lookup (d : Nat) (m k : Opd) (z : Value) (ok : Bool) {gd : Option (Nat × Bool)} {msk unl : List Nat} {r : List DOp} {lg : List (Option Nat)} : EvD P (⟨(gd, .lookup d m k z ok), msk, unl⟩ :: r) fr M lg K = EvG P (gd, .lookup d m k z ok) fr M (evdK P r (lg ++ [keyOf (.lookup d m k z ok) fr]) K) := evd_0 rfl
theorem evd_extract (d : Nat) (x : Opd) (i : Nat) {gd : Option (Nat × Bool)} {msk unl : List Nat} {r : List DOp} {lg : List (Option Nat)} : EvD P (⟨(gd, .extract d x i), msk, unl⟩ :: r) fr M lg K = EvG P (gd, .extract d x i) fr M (evdK P r (lg ++ [none]) K) := evd_0 rfl
theorem evd_len (d : Nat) (x : Opd) {gd : Option (Nat × Bool)} {msk unl : List Nat} {r : List DOp} {lg : List (Option Nat)} : EvD P (⟨(gd, .len d x), msk, unl⟩ :: r) fr M lg K = EvG P (gd, .len d x) fr M (evdK P r (lg ++ [none]) K) := evd_0 rfl
theorem evd_lenT (d : Nat) (x : Opd) {gd : Option (Nat × Bool)} {msk unl : List Nat} {r : List DOp} {lg : List (Option Nat)} : EvD P (⟨(gd, .lenT d x), msk, unl⟩ :: r) fr M lg K = EvG P (gd, .lenT d x) fr M (evdK P r (lg ++ [none]) K) := evd_0 rfl
theorem evd_mm (d : Nat) (mx : Bool) (xs : List Opd) {gd : Option (Nat × Bool)} {msk unl : List Nat} {r : List DOp} {lg : List (Option Nat)} : EvD P (⟨(gd, .mm d mx xs), msk, unl⟩ :: r) fr M lg K = EvG P (gd, .mm d mx xs) fr M (evdK P r (lg ++ [none]) K) := evd_0 rfl
theorem evd_any (d : Nat) {gd : Option (Nat × Bool)} {msk unl : List Nat} {r : List DOp} {lg : List (Option Nat)} : EvD P (⟨(gd, .any d), msk, unl⟩ :: r) fr M lg K = EvG P (gd, .any d) fr M (evdK P r (lg ++ [none]) K) := evd_0 rfl
theorem evd_box (d : Nat) (x : Opd) {gd : Option (Nat × Bool)} {msk unl : List Nat} {r : List DOp} {lg : List (Option Nat)} : EvD P (⟨(gd, .box d x), msk, unl⟩ :: r) fr M lg K = EvG P (gd, .box d x) fr M (evd1K P r lg M.length K) := evd_1 rfl
theorem evd_alloc (d : Nat) (z : List LV) {gd : Option (Nat × Bool)} {msk unl : List Nat} {r : List DOp} {lg : List (Option Nat)} : EvD P (⟨(gd, .alloc d z), msk, unl⟩ :: r) fr M lg K = EvG P (gd, .alloc d z) fr M (evd1K P r lg M.length K) := evd_1 rfl
theorem evd_buildSl (d n e : Nat) (z : List LV) (ps : List (Nat × Nat × Opd)) {gd : Option (Nat × Bool)} {msk unl : List Nat} {r : List DOp} {lg : List (Option Nat)} : EvD P (⟨(gd, .buildSl d n e z ps), msk, unl⟩ :: r) fr M lg K = EvG P (gd, .buildSl d n e z ps) fr M (evd1K P r lg M.length K) := evd_1 rfl
theorem evd_mksl (d e b : Nat) (z : List LV) (l c : Opd) {gd : Option (Nat × Bool)} {msk unl : List Nat} {r : List DOp} {lg : List (Option Nat)} : EvD P (⟨(gd, .mksl d e b z l c), msk, unl⟩ :: r) fr M lg K = EvG P (gd, .mksl d e b z l c) fr M (evd1K P r lg M.length K) := evd_1 rfl
theorem evd_mkmap (d : Nat) {gd : Option (Nat × Bool)} {msk unl : List Nat} {r : List DOp} {lg : List (Option Nat)} : EvD P (⟨(gd, .mkmap d), msk, unl⟩ :: r) fr M lg K = EvG P (gd, .mkmap d) fr M (evd1K P r lg M.length K) := evd_1 rfl
theorem evd_sl0 (d e : Nat) (x : Opd) {gd : Option (Nat × Bool)} {msk unl : List Nat} {r : List DOp} {lg : List (Option Nat)} : EvD P (⟨(gd, .sl0 d e x), msk, unl⟩ :: r) fr M lg K = EvG P (gd, .sl0 d e x) fr M (evd1K P r lg M.length K) := evd_1 rfl
theorem evd_store (n : Nat) (a x : Opd) {gd : Option (Nat × Bool)} {msk unl : List Nat} {r : List DOp} {lg : List (Option Nat)} : EvD P (⟨(gd, .store n a x), msk, unl⟩ :: r) fr M lg K = EvG P (gd, .store n a x) fr (maskM (selL msk lg) M) (evd2K P r lg M (selL msk lg) (selL unl lg) K) := evd_2 rfl
theorem evd_append (d e b : Nat) (s x : Opd) {gd : Option (Nat × Bool)} {msk unl : List Nat} {r : List DOp} {lg : List (Option Nat)} : EvD P (⟨(gd, .append d e b s x), msk, unl⟩ :: r) fr M lg K = EvG P (gd, .append d e b s x) fr (maskM (selL msk lg) M) (evd2K P r lg M (selL msk lg) (selL unl lg) K) := evd_2 rfl
theorem evd_copy (d e : Nat) (s x : Opd) {gd : Option (Nat × Bool)} {msk unl : List Nat} {r : List DOp} {lg : List (Option Nat)} : EvD P (⟨(gd, .copy d e s x), msk, unl⟩ :: r) fr M lg K = EvG P (gd, .copy d e s x) fr (maskM (selL msk lg) M) (evd2K P r lg M (selL msk lg) (selL unl lg) K) := evd_2 rfl
theorem evd_clear (d : Option Nat) (e : Nat) (z : List LV) (x : Opd) {gd : Option (Nat × Bool)} {msk unl : List Nat} {r : List DOp} {lg : List (Option Nat)} : EvD P (⟨(gd, .clear d e z x), msk, unl⟩ :: r) fr M lg K = EvG P (gd, .clear d e z x) fr (maskM (selL msk lg) M) (evd2K P r lg M (selL msk lg) (selL unl lg) K) := evd_2 rfl
theorem evd_mupd (m k v : Opd) {gd : Option (Nat × Bool)} {msk unl : List Nat} {r : List DOp} {lg : List (Option Nat)} : EvD P (⟨(gd, .mupd m k v), msk, unl⟩ :: r) fr M lg K = EvG P (gd, .mupd m k v) fr (maskM (selL msk lg) M) (evd2K P r lg M (selL msk lg) (selL unl lg) K) := evd_2 rfl
theorem evd_call (d : Option Nat) (f : FuncId) (xs : List Opd) {gd : Option (Nat × Bool)} {msk unl : List Nat} {r : List DOp} {lg : List (Option Nat)} : EvD P (⟨(gd, .call d f xs), msk, unl⟩ :: r) fr M lg K = EvG P (gd, .call d f xs) fr (maskM (selL msk lg) M) (evd2K P r lg M (selL msk lg) (selL unl lg) K) := evd_2 rfl
theorem evd_callV (d : Option Nat) (x : Opd) (xs : List Opd) {gd : Option (Nat × Bool)} {msk unl : List Nat} {r : List DOp} {lg : List (Option Nat)} : EvD P (⟨(gd, .callV d x xs), msk, unl⟩ :: r) fr M lg K = EvG P (gd, .callV d x xs) fr (maskM (selL msk lg) M) (evd2K P r lg M (selL msk lg) (selL unl lg) K) := evd_2 rfl
end
end Go.Ab

/- Values: what operators come to; ends of functions. -/
namespace Go.Ab
open Go

section
variable {k : IntKind} {a b : Int} {t : Bool}
theorem bv_add : binV .add (.val (.int k a)) (.val (.int k b)) = some (.val (.int k (k.wrap (a + b))), True) := by simp [binV, binInt]
theorem bv_sub : binV .sub (.val (.int k a)) (.val (.int k b)) = some (.val (.int k (k.wrap (a - b))), True) := by simp [binV, binInt]
theorem bv_mul : binV .mul (.val (.int k a)) (.val (.int k b)) = some (.val (.int k (k.wrap (a * b))), True) := by simp [binV, binInt]
theorem bv_quo : binV .quo (.val (.int k a)) (.val (.int k b)) = some (.val (.int k (k.wrap (a.tdiv b))), b ≠ 0) := by simp [binV, binInt]
theorem bv_rem : binV .rem (.val (.int k a)) (.val (.int k b)) = some (.val (.int k (a.tmod b)), b ≠ 0) := by simp [binV, binInt]
theorem bv_eql : binV .eql (.val (.int k a)) (.val (.int k b)) = some (.val (.bool (decide (a = b))), True) := by
  have : (a == b) = decide (a = b) := (rfl)
  simp [binV, binInt, this]
theorem bv_neq : binV .neq (.val (.int k a)) (.val (.int k b)) = some (.val (.bool (!decide (a = b))), True) := by
  have : (a != b) = !decide (a = b) := (rfl)
  simp [binV, binInt, this]
theorem bv_lss : binV .lss (.val (.int k a)) (.val (.int k b)) = some (.val (.bool (decide (a < b))), True) := by simp [binV, binInt]
theorem bv_leq : binV .leq (.val (.int k a)) (.val (.int k b)) = some (.val (.bool (decide (a ≤ b))), True) := by simp [binV, binInt]
theorem bv_gtr : binV .gtr (.val (.int k a)) (.val (.int k b)) = some (.val (.bool (decide (b < a))), True) := by simp [binV, binInt]
theorem bv_geq : binV .geq (.val (.int k a)) (.val (.int k b)) = some (.val (.bool (decide (b ≤ a))), True) := by simp [binV, binInt]
theorem bv_shl {k' : IntKind} : binV .shl (.val (.int k a)) (.val (.int k' b)) = some (.val (.int k (k.wrap (a * 2 ^ (min b.toNat k.bits)))), 0 ≤ b) := (rfl)
theorem bv_shr {k' : IntKind} : binV .shr (.val (.int k a)) (.val (.int k' b)) = some (.val (.int k (a.fdiv (2 ^ (min b.toNat k.bits)))), 0 ≤ b) := (rfl)
theorem bv_and : binV .and (.val (.int k a)) (.val (.int k b)) = some (.val (.int k (k.wrap ((BitVec.ofInt k.bits a &&& BitVec.ofInt k.bits b).toNat : Int))), True) := by simp [binV, binInt]
theorem bv_or : binV .or (.val (.int k a)) (.val (.int k b)) = some (.val (.int k (k.wrap ((BitVec.ofInt k.bits a ||| BitVec.ofInt k.bits b).toNat : Int))), True) := by simp [binV, binInt]
theorem bv_xor : binV .xor (.val (.int k a)) (.val (.int k b)) = some (.val (.int k (k.wrap ((BitVec.ofInt k.bits a ^^^ BitVec.ofInt k.bits b).toNat : Int))), True) := by simp [binV, binInt]
theorem bv_not : binV .andNot (.val (.int k a)) (.val (.int k b)) = some (.val (.int k (k.wrap ((BitVec.ofInt k.bits a &&& ~~~ BitVec.ofInt k.bits b).toNat : Int))), True) := by simp [binV, binInt]
theorem eqo_t {ng : Bool} {x : Opd} {i : Nat} {fr : Fr} : eqoV ng x (.t i) fr = eqbV ng (x.ev fr) (fr i) := (rfl)
theorem eqo_b {ng : Bool} {x : Opd} {b : Bool} {fr : Fr} : eqoV ng x (.c (.val (.bool b))) fr = eqbV ng (x.ev fr) (.val (.bool b)) := (rfl)
theorem eqo_n {ng : Bool} {x : Opd} {fr : Fr} : eqoV ng x (.c (.val (.slice none 0 0))) fr = nilV ng (x.ev fr) := (rfl)
theorem nil_r {ng : Bool} {t o n : Nat} : nilV ng (.ref t o (n + 1)) = some (.val (.bool ng)) := (rfl)
theorem nil_n {ng : Bool} : nilV ng (.val (.slice none 0 0)) = some (.val (.bool (!ng))) := (rfl)
theorem eb_eq {x y : Bool} : eqbV false (.val (.bool x)) (.val (.bool y)) = some (.val (.bool (x == y))) := (rfl)
theorem eb_ne {x y : Bool} : eqbV true (.val (.bool x)) (.val (.bool y)) = some (.val (.bool (!(x == y)))) := (rfl)
theorem un_not : unV .not (.val (.bool t)) = some (.val (.bool (!t))) := (rfl)
theorem un_neg : unV .neg (.val (.int k a)) = some (.val (.int k (k.wrap (0 - a)))) := (rfl)
theorem andK_mk {c A : Prop} (h1 : c) (h2 : A) : andK c A := ⟨h1, h2⟩
theorem len_ref {t o n : Nat} : lenV (.ref t o n) = some (n : Int) := (rfl)
theorem len_nil {n c : Nat} : lenV (.val (.slice none n c)) = some (n : Int) := (rfl)
theorem intV_i {n : Int} : intV (.val (.int k n)) = some n := (rfl)
end

theorem pick_dt {p : Prop} [Decidable p] {a b : LV} (h : p) : (if decide p = true then a else b) = a := by rw [if_pos (decide_eq_true h)]
theorem pick_df {p : Prop} [Decidable p] {a b : LV} (h : ¬ p) : (if decide p = true then a else b) = b := by rw [decide_eq_false h]; rfl
/-- The references of a value lie below n. -/
def LV.lo1 (n : Nat) : LV → Bool
  | .ref t _ _ => decide (t < n)
  | .ptr t _ => decide (t < n)
  | .mp t => decide (t < n)
  | .clo _ cs => cs.all fun p => decide (p.1 < n)
  | _ => true
def LV.lo (n : Nat) : LV → Bool
  | .agg cs => cs.all (LV.lo1 n)
  | .tup vs => vs.all fun v => match v with | .agg cs => cs.all (LV.lo1 n) | v => LV.lo1 n v
  | v => LV.lo1 n v

theorem rn1_id {ρ : Nat → Nat} {n : Nat} (h : ∀ t, t < n → ρ t = t) {v : LV} (hv : v.lo1 n = true) : rn1 ρ v = v := by
  cases v <;> simp only [LV.lo1, decide_eq_true_eq] at hv <;> simp only [rn1]
  case ref t o m => rw [h t hv]
  case ptr t o => rw [h t hv]
  case mp t => rw [h t hv]
  case clo f cs =>
    congr 1
    rw [List.all_eq_true] at hv
    conv => rhs; rw [← List.map_id cs]
    apply List.map_congr_left
    intro p hp
    have := hv p hp
    simp only [decide_eq_true_eq] at this
    simp [h p.1 this]

theorem rn1s_id {ρ : Nat → Nat} {n : Nat} (h : ∀ t, t < n → ρ t = t) {cs : List LV} (hv : cs.all (LV.lo1 n) = true) : cs.map (rn1 ρ) = cs := by
  rw [List.all_eq_true] at hv
  conv => rhs; rw [← List.map_id cs]
  exact List.map_congr_left fun c hc => rn1_id h (hv c hc)

theorem rn0_id {ρ : Nat → Nat} {n : Nat} (h : ∀ t, t < n → ρ t = t) {v : LV} (hv : (match v with | .agg cs => cs.all (LV.lo1 n) | v => LV.lo1 n v) = true) : rn0 ρ v = v := by
  cases v <;> simp only [rn0] <;> try (exact rn1_id h hv)
  case agg cs => rw [rn1s_id h hv]

theorem rn_id {ρ : Nat → Nat} {n : Nat} (h : ∀ t, t < n → ρ t = t) {v : LV} (hv : v.lo n = true) : rn ρ v = v := by
  cases v <;> simp only [rn] <;> try (exact rn0_id h hv)
  case tup vs =>
    congr 1
    simp only [LV.lo, List.all_eq_true] at hv
    conv => rhs; rw [← List.map_id vs]
    exact List.map_congr_left fun c hc => rn0_id h (hv c hc)

/-- What M holds, N holds. -/
def Pre' (M N : Mem) : Prop := M.length ≤ N.length ∧ ∀ u, u < M.length → N[u]? = M[u]?

/-- At a function's end: all that was made is let go. -/
theorem cmp_drop {M L : Mem} {v : LV} (hv : v.lo M.length = true) : Cmp M (M ++ L) v M v := by
  refine ⟨⟨fun t => if t < M.length then t else t + L.length, fun t ht => by simp [ht], fun t ht => ?_, fun t blk hl => .inl ?_, fun t t' b b' h h' e => ?_, rn_id (n := M.length) (fun t ht => by simp [ht]) hv⟩, Nat.le_refl _⟩
  · simp only [List.length_append, if_neg (Nat.not_lt.2 ht)]; omega
  · have ht := hl.lt
    simp only [if_pos ht]
    refine ⟨?_, hl⟩
    unfold Live at *
    rw [List.getElem?_append_left ht]; exact hl
  · simpa [h.lt, h'.lt] using e

theorem cmp_drop0 {M : Mem} {v : LV} (hv : v.lo M.length = true) : Cmp M M v M v := by
  have := cmp_drop (M := M) (L := []) hv
  simpa using this

theorem cmp_dropB {M L : Mem} {p q : Prop} [Decidable p] [Decidable q] (h : p ↔ q) : Cmp M (M ++ L) (.val (.bool (decide p))) M (.val (.bool (decide q))) := by
  rw [show decide p = decide q by simp [h]]; exact cmp_drop rfl
theorem cmp_dropF {M L : Mem} {q : Prop} [Decidable q] (h : ¬ q) : Cmp M (M ++ L) (.val (.bool false)) M (.val (.bool (decide q))) := by
  rw [decide_eq_false h]; exact cmp_drop rfl
theorem cmp_dropT {M L : Mem} {q : Prop} [Decidable q] (h : q) : Cmp M (M ++ L) (.val (.bool true)) M (.val (.bool (decide q))) := by
  rw [decide_eq_true h]; exact cmp_drop rfl
theorem cmp_dropF0 {M : Mem} {q : Prop} [Decidable q] (h : ¬ q) : Cmp M M (.val (.bool false)) M (.val (.bool (decide q))) := by
  rw [decide_eq_false h]; exact cmp_drop0 rfl
theorem cmp_dropT0 {M : Mem} {q : Prop} [Decidable q] (h : q) : Cmp M M (.val (.bool true)) M (.val (.bool (decide q))) := by
  rw [decide_eq_true h]; exact cmp_drop0 rfl
theorem cmp_pre {M Me : Mem} {v : LV} (hp : Pre' M Me) (hv : v.lo M.length = true) : Cmp M Me v M v := by
  obtain ⟨L, rfl⟩ : ∃ L, Me = M ++ L := ⟨Me.drop M.length, by
    have h1 : Me.take M.length = M := by
      apply List.ext_getElem?
      intro i
      rw [List.getElem?_take]
      split
      · rename_i h; exact hp.2 i h
      · rename_i h; rw [List.getElem?_eq_none (Nat.le_of_not_lt h)]
    conv => lhs; rw [← List.take_append_drop M.length Me, h1]⟩
  exact cmp_drop hv

def keepR (n j l : Nat) : Nat → Nat := fun t => if t < n then t else if t = n then n + j else t + l
theorem keepR_n {n j l : Nat} : keepR n j l n = n + j := by simp [keepR]
theorem keepR_lt {n j l t : Nat} (h : t < n) : keepR n j l t = t := by simp [keepR, h]

/-- At a function's end: one new block is kept. -/
theorem cmp_keep1 {M L : Mem} {j e : Nat} {cs : List LV} {v ve : LV} (hj : L[j]? = some (some (.row cs true e))) (hcs : cs.all (LV.lo1 M.length) = true) (hv : rn (keepR M.length j L.length) v = ve) :
    Cmp M (M ++ L) ve (M ++ [some (.row cs true e)]) v := by
  have hjl : j < L.length := by
    rcases Nat.lt_or_ge j L.length with h | h
    · exact h
    · rw [List.getElem?_eq_none h] at hj; cases hj
  have hid : ∀ t, t < M.length → keepR M.length j L.length t = t := fun t ht => keepR_lt ht
  refine ⟨⟨keepR M.length j L.length, hid, fun t ht => ?_, fun t blk hl => ?_, fun t t' b b' h h' e => ?_, hv⟩, by simp⟩
  · simp only [List.length_append, List.length_singleton] at ht ⊢
    unfold keepR
    rw [if_neg (by omega), if_neg (by omega)]; omega
  · rcases live_push hl with ⟨h1, h2⟩ | ⟨rfl, rfl⟩
    · refine .inl ?_
      rw [hid t h1]
      refine ⟨?_, h2⟩
      unfold Live at *
      rw [List.getElem?_append_left h1]; exact h2
    · refine .inr ?_
      rw [keepR_n]
      refine ⟨?_, rfl⟩
      unfold Live
      simp only [rnB]
      rw [at_j, hj, rn1s_id hid hcs]
  · have h1 := h.lt
    have h2 := h'.lt
    simp only [List.length_append, List.length_singleton] at h1 h2
    unfold keepR at e
    split at e <;> split at e
    · exact e
    · split at e <;> omega
    · split at e <;> omega
    · omega

end Go.Ab

/- Slices of numbers and of cells in the abstract memory. -/
namespace Go.Ab
open Go

/-- A cell of a box: [3]int. -/
structure Cell where
  a : Int
  b : Int
  c : Int
deriving DecidableEq

instance : Inhabited Cell := ⟨⟨0, 0, 0⟩⟩
def Cell.row (x : Cell) : List LV := [.I x.a, .I x.b, .I x.c]

def triL (cs : List Cell) : List LV := cs.flatMap Cell.row
def intL (xs : List Int) : List LV := xs.map LV.I

/-- Block t of M holds, from place o on, the cells vs. -/
def Has (M : Mem) (t o : Nat) (vs : List LV) : Prop := ∃ row, getRow M t = some row ∧ o + vs.length ≤ row.length ∧ (row.drop o).take vs.length = vs
abbrev Ints (M : Mem) (t o : Nat) (xs : List Int) : Prop := Has M t o (intL xs)
abbrev Tri (M : Mem) (t o : Nat) (cs : List Cell) : Prop := Has M t o (triL cs)

theorem row_lt {M : Mem} {t : Nat} {row : List LV} (h : getRow M t = some row) : t < M.length := by
  obtain ⟨_, _, hl⟩ := getRow_live h; exact hl.lt
theorem Has.lt {M : Mem} {t o : Nat} {vs : List LV} (h : Has M t o vs) : t < M.length := by obtain ⟨_, h1, _⟩ := h; exact row_lt h1
theorem Has.app {M L : Mem} {t o : Nat} {vs : List LV} (h : Has M t o vs) : Has (M ++ L) t o vs := by
  obtain ⟨row, h1, h3, h2⟩ := h
  exact ⟨row, by rw [getRow_app (row_lt h1)]; exact h1, h3, h2⟩
theorem Has.get {M : Mem} {t o k : Nat} {vs : List LV} (h : Has M t o vs) (hk : k < vs.length) : getCell M t (o + k) = vs[k]? := by
  obtain ⟨row, h1, h3, h2⟩ := h
  unfold getCell
  rw [h1]
  simp only [Option.bind_some]
  conv => rhs; rw [← h2]
  rw [List.getElem?_take, if_pos hk, List.getElem?_drop]
theorem Has.gets {M : Mem} {t o k n : Nat} {vs : List LV} (h : Has M t o vs) (hk : k + n ≤ vs.length) : getCells M t (o + k) n = some ((vs.drop k).take n) := by
  obtain ⟨row, h1, h3, h2⟩ := h
  unfold getCells
  rw [h1]
  simp only [Option.bind_some]
  rw [if_pos (by omega)]
  congr 1
  conv => rhs; rw [← h2]
  rw [List.drop_take, List.take_take, List.drop_drop, Nat.min_eq_left (by omega)]
theorem Has.all {M : Mem} {t o : Nat} {vs : List LV} (h : Has M t o vs) : getCells M t o vs.length = some vs := by
  have := h.gets (k := 0) (n := vs.length) (by omega)
  simpa using this
theorem Has.empty {M : Mem} {t o : Nat} {row : List LV} (h : getRow M t = some row) (ho : o ≤ row.length) : Has M t o [] := ⟨row, h, by simpa using ho, by simp⟩
theorem Has.new {M : Mem} {vs : List LV} {w : Bool} {e : Nat} : Has (M ++ [some (.row vs w e)]) M.length 0 vs := ⟨vs, by rw [row_0]; rfl, by simp, by simp⟩

theorem intL_len (xs : List Int) : (intL xs).length = xs.length := by simp [intL]
theorem triL_len (cs : List Cell) : (triL cs).length = cs.length * 3 := by
  induction cs with
  | nil => rfl
  | cons c cs ih => simp only [triL, List.flatMap_cons, List.length_append] at ih ⊢; rw [ih]; simp [Cell.row]; omega
theorem triL_drop (cs : List Cell) : ∀ k, (triL cs).drop (k * 3) = triL (cs.drop k) := by
  induction cs with
  | nil => intro k; simp [triL]
  | cons c cs ih =>
    intro k
    cases k with
    | zero => simp
    | succ k =>
      have : (k + 1) * 3 = k * 3 + 3 := by omega
      rw [this]
      show ((c.row ++ triL cs).drop (k * 3 + 3)) = triL (cs.drop k)
      rw [← ih k, Nat.add_comm, ← List.drop_drop]
      congr 1
theorem triL_at {cs : List Cell} {k : Nat} (hk : k < cs.length) : ((triL cs).drop (k * 3)).take 3 = (cs.getD k default).row := by
  rw [triL_drop]
  have : cs.drop k = cs.getD k default :: cs.drop (k + 1) := by
    rw [List.drop_eq_getElem_cons hk]
    simp [hk]
  rw [this]
  rfl

theorem Ints.get {M : Mem} {t o k : Nat} {xs : List Int} (h : Ints M t o xs) (hk : k < xs.length) : getCell M t (o + k) = some (.I (xs.getD k 0)) := by
  rw [Has.get h (by rw [intL_len]; exact hk)]
  simp [intL, hk]
theorem Tri.get {M : Mem} {t o k : Nat} {cs : List Cell} (h : Tri M t o cs) (hk : k < cs.length) : getCells M t (o + k * 3) 3 = some (cs.getD k default).row := by
  rw [Has.gets h (by rw [triL_len]; omega), triL_at hk]
theorem Tri.get1 {M : Mem} {t o k j : Nat} {cs : List Cell} (h : Tri M t o cs) (hk : k < cs.length) (hj : j < 3) : getCell M t (o + k * 3 + j) = (cs.getD k default).row[j]? := by
  rw [Nat.add_assoc, Has.get h (by rw [triL_len]; omega)]
  have := triL_at hk
  rw [← this, List.getElem?_take, if_pos hj, List.getElem?_drop]
theorem Tri.get_a {M : Mem} {t o k : Nat} {cs : List Cell} (h : Tri M t o cs) (hk : k < cs.length) : getCell M t (o + k * 3) = some (.I (cs.getD k default).a) := by
  exact h.get1 (j := 0) hk (by omega)
theorem Tri.get_b {M : Mem} {t o k : Nat} {cs : List Cell} (h : Tri M t o cs) (hk : k < cs.length) : getCell M t (o + k * 3 + 1) = some (.I (cs.getD k default).b) := by
  exact h.get1 (j := 1) hk (by omega)
theorem Tri.get_c {M : Mem} {t o k : Nat} {cs : List Cell} (h : Tri M t o cs) (hk : k < cs.length) : getCell M t (o + k * 3 + 2) = some (.I (cs.getD k default).c) := by
  exact h.get1 (j := 2) hk (by omega)

theorem intL_lo {n : Nat} (xs : List Int) : (intL xs).all (LV.lo1 n) = true := by
  rw [List.all_eq_true]; intro v hv
  obtain ⟨x, _, rfl⟩ := List.mem_map.1 hv; rfl
theorem triL_lo {n : Nat} (cs : List Cell) : (triL cs).all (LV.lo1 n) = true := by
  rw [List.all_eq_true]; intro v hv
  obtain ⟨x, _, h⟩ := List.mem_flatMap.1 hv
  simp only [Cell.row, List.mem_cons, List.mem_nil_iff, or_false] at h
  rcases h with rfl | rfl | rfl <;> rfl
theorem callK_of {P : Program} {f : FuncId} {args : List LV} {M N : Mem} {v : LV} {A : LV → Mem → Prop} (h : CallsTo P f args M v N) (hA : A v N) : callK P f args M A := h.mono fun _ _ e => by rw [e.1, e.2]; exact hA
theorem callR_of {P : Program} {f : FuncId} {args : List LV} {M : Mem} {A B : LV → Mem → Prop} (h : CallsR P f args M B) (hA : ∀ v N, B v N → A v N) : callK P f args M A := h.mono hA
theorem cell_eq {c d : Cell} : c = d ↔ c.a = d.a ∧ c.b = d.b ∧ c.c = d.c := by
  cases c; cases d; simp
theorem cell_eta {c : Cell} : (⟨c.a, c.b, c.c⟩ : Cell) = c := (rfl)
theorem eqI {a b : Int} (h : a = b) : LV.I a = LV.I b := by rw [h]
theorem made_int (n : Nat) : (List.replicate n [LV.val (Value.int IntKind.i64 0)]).flatten = intL (List.replicate n 0) := by
  induction n with
  | zero => rfl
  | succ n ih => simp only [List.replicate_succ, List.flatten_cons, ih]; rfl
theorem intL_get {xs : List Int} {k : Nat} (h : k < xs.length) : (intL xs)[k]? = some (LV.val (Value.int IntKind.i64 (xs.getD k 0))) := by simp [intL, h]
theorem intL_set {xs : List Int} {k : Nat} {v : Int} : (intL xs).set k (.I v) = intL (xs.set k v) := by simp [intL, List.map_set]
theorem splice_int {xs : List Int} {k : Nat} {v : Int} (h : k < xs.length) : splice (intL xs) k [LV.val (Value.int IntKind.i64 v)] = intL (xs.set k v) := by
  rw [splice_1 (by rw [intL_len]; exact h)]; exact intL_set
theorem triL_append (xs ys : List Cell) : triL (xs ++ ys) = triL xs ++ triL ys := by simp [triL]
theorem intL_append (xs ys : List Int) : intL (xs ++ ys) = intL xs ++ intL ys := by simp [intL]
theorem triL_take (cs : List Cell) : ∀ k, (triL cs).take (k * 3) = triL (cs.take k) := by
  induction cs with
  | nil => intro k; simp [triL]
  | cons c cs ih =>
    intro k
    cases k with
    | zero => simp [triL]
    | succ k =>
      have : (k + 1) * 3 = k * 3 + 3 := by omega
      rw [this]
      show ((c.row ++ triL cs).take (k * 3 + 3)) = c.row ++ triL (cs.take k)
      rw [← ih k, List.take_append, List.take_of_length_le (by simp [Cell.row])]
      congr 2
theorem getD_set {α : Type} {xs : List α} {k j : Nat} {v d : α} : (xs.set k v).getD j d = if j = k ∧ k < xs.length then v else xs.getD j d := by
  simp only [List.getD_eq_getElem?_getD]
  by_cases h : k = j
  · subst h
    by_cases hk : k < xs.length
    · simp [hk]
    · simp [hk, List.set_eq_of_length_le (Nat.le_of_not_lt hk)]
  · rw [List.getElem?_set_ne h, if_neg (fun e => h e.1.symm)]
theorem natI (k : Nat) : ((k : Int) + 1) = ((k + 1 : Nat) : Int) := by omega
end Go.Ab

/- Memories that grow: what was there at a function's beginning stays; appends; ends. -/
namespace Go.Ab
open Go
set_option linter.unusedVariables false

/-- What M holds, N holds. -/
abbrev Pre := Pre'
theorem Pre.refl (M : Mem) : Pre M M := ⟨Nat.le_refl _, fun _ _ => rfl⟩
theorem Pre.trans {M N O : Mem} (h : Pre M N) (k : Pre N O) : Pre M O := ⟨Nat.le_trans h.1 k.1, fun u hu => (k.2 u (Nat.lt_of_lt_of_le hu h.1)).trans (h.2 u hu)⟩
theorem Pre.app (M L : Mem) : Pre M (M ++ L) := ⟨by simp, fun u hu => List.getElem?_append_left hu⟩
theorem Pre.app' {M N L : Mem} (h : Pre M N) : Pre M (N ++ L) := h.trans (Pre.app N L)
theorem Live.pre {M N : Mem} {t : Nat} {b : Blk} (h : Live M t b) (hp : Pre M N) : Live N t b := by unfold Live; rw [hp.2 t h.lt]; exact h
theorem Live.app {M L : Mem} {t : Nat} {b : Blk} (h : Live M t b) : Live (M ++ L) t b := h.pre (Pre.app M L)
theorem Has.pre {M N : Mem} {t o : Nat} {vs : List LV} (h : Has M t o vs) (hp : Pre M N) : Has N t o vs := by
  obtain ⟨row, h1, h2⟩ := h
  refine ⟨row, ?_, h2⟩
  unfold getRow at *
  rw [hp.2 t (row_lt (M := M) (by unfold getRow; exact h1))]; exact h1
theorem Live.row {M : Mem} {t e : Nat} {cs : List LV} {w : Bool} (h : Live M t (.row cs w e)) : getRow M t = some cs := by unfold getRow; rw [show M[t]? = _ from h]
theorem Live.esz {M : Mem} {t e : Nat} {cs : List LV} {w : Bool} (h : Live M t (.row cs w e)) : getEsz M t = some e := by unfold getEsz; rw [show M[t]? = _ from h]
theorem Live.cell {M : Mem} {t e o : Nat} {cs : List LV} {w : Bool} (h : Live M t (.row cs w e)) : getCell M t o = cs[o]? := by unfold getCell; rw [h.row]; rfl
theorem Live.cells {M : Mem} {t e o n : Nat} {cs : List LV} {w : Bool} (h : Live M t (.row cs w e)) : getCells M t o n = if o + n ≤ cs.length then some ((cs.drop o).take n) else none := by unfold getCells; rw [h.row]; rfl
theorem Live.setC {M : Mem} {t e o : Nat} {cs vs : List LV} (h : Live M t (.row cs true e)) : setCells M t o vs = if o + vs.length ≤ cs.length then some (M.set t (some (.row (splice cs o vs) true e))) else none := by
  unfold setCells; rw [show M[t]? = _ from h]
theorem Live.has {M : Mem} {t e : Nat} {cs : List LV} {w : Bool} (h : Live M t (.row cs w e)) : Has M t 0 cs := ⟨cs, h.row, by simp, by simp⟩
theorem Live.set_ne {M : Mem} {t u : Nat} {b : Blk} {x : Option Blk} (h : Live M u b) (hn : t ≠ u) : Live (M.set t x) u b := by unfold Live; rw [List.getElem?_set_ne hn]; exact h
theorem Live.set_eq {M : Mem} {t : Nat} {b b' : Blk} (h : Live M t b) : Live (M.set t (some b')) t b' := by unfold Live; simp [h.lt]
theorem Live.new {M L : Mem} {b : Blk} : Live (M ++ some b :: L) M.length b := by unfold Live; rw [at_0]; rfl
theorem Live.newj {M L : Mem} {b : Blk} {j : Nat} (h : L[j]? = some (some b)) : Live (M ++ L) (M.length + j) b := by unfold Live; rw [at_j]; exact h
theorem Pre.set {M N : Mem} {t : Nat} {x : Option Blk} (h : Pre M N) (ht : M.length ≤ t) : Pre M (N.set t x) := ⟨by simpa using h.1, fun u hu => by rw [List.getElem?_set_ne (by omega)]; exact h.2 u hu⟩

theorem appendK_1 {M : Mem} {t n e b : Nat} {acc new : List LV} {A : LV → Mem → Prop} (ht : Live M t (.row acc true e)) (hn : acc.length = n * e) (hne : new.length = e) (he : 0 < e)
    (hb : (n + 1) * b ≤ 140737488355328) (hn' : n + 1 ≤ 9223372036854775807)
    (hA : ∀ M', M'.length = M.length + 2 → Live M' (M.length + 1) (.row (acc ++ new) true e) → (∀ u, u ≠ t → u < M.length → M'[u]? = M[u]?) → A (.ref (M.length + 1) 0 (n + 1)) M') :
    appendK e b (.ref t 0 n) (.ref M.length 0 1) (M ++ [some (.row new true e)]) A := by
  have htl := ht.lt
  have hg : (M ++ [some (Blk.row new true e)])[t]? = some (some (.row acc true e)) := by rw [List.getElem?_append_left htl]; exact ht
  simp only [appendK, lenS, winC, Nat.one_ne_zero, if_false, cells_0, cellsL_z, Nat.one_mul, Nat.zero_add, hne, Nat.le_refl, if_true, List.drop_zero, List.take_of_length_le (Nat.le_of_eq hne)]
  refine andK_mk ⟨hb, hn'⟩ ?_
  simp only [appV, Nat.one_ne_zero, if_false, hg, Nat.zero_add, hn, Nat.le_refl, and_self, if_true, appK, List.drop_zero]
  rw [List.take_of_length_le (by omega), len_app]
  refine hA _ (by simp) ?_ fun u hu hul => ?_
  · unfold Live
    rw [List.getElem?_append_right (by simp)]
    simp
  · rw [List.getElem?_append_left (by simp; omega), List.getElem?_set_ne (fun e => hu e.symm), List.getElem?_append_left hul]

theorem pre_step {M0 M M' : Mem} {t j : Nat} (hp : Pre M0 M) (ht : M0.length ≤ t) (hl : M'.length = M.length + j) (hu : ∀ u, u ≠ t → u < M.length → M'[u]? = M[u]?) : Pre M0 M' :=
  ⟨by have := hp.1; omega, fun u h => by rw [hu u (by omega) (Nat.lt_of_lt_of_le h hp.1)]; exact hp.2 u h⟩
theorem live_step {M M' : Mem} {t u : Nat} {b : Blk} (h : Live M u b) (hne : u ≠ t) (hu : ∀ u, u ≠ t → u < M.length → M'[u]? = M[u]?) : Live M' u b := by
  unfold Live; rw [hu u hne h.lt]; exact h
theorem appendK_int {M : Mem} {t : Nat} {acc : List Int} {v : Int} {A : LV → Mem → Prop} (ht : Live M t (.row (intL acc) true 1)) (hl : acc.length ≤ 1000000000)
    (hA : ∀ M', M'.length = M.length + 2 → Live M' (M.length + 1) (.row (intL (acc ++ [v])) true 1) → (∀ u, u ≠ t → u < M.length → M'[u]? = M[u]?) → A (.ref (M.length + 1) 0 (acc ++ [v]).length) M') :
    appendK 1 8 (.ref t 0 acc.length) (.ref M.length 0 1) (M ++ [some (.row [LV.val (.int .i64 v)] true 1)]) A := by
  refine appendK_1 (acc := intL acc) (new := [LV.I v]) ht (by rw [intL_len]; omega) rfl (by omega) (by omega) (by omega) fun M' h1 h2 h3 => ?_
  have := hA M' h1 (by rw [intL_append]; exact h2) h3
  simpa using this
theorem appendK_cell {M : Mem} {t : Nat} {acc : List Cell} {x y z : Int} {A : LV → Mem → Prop} (ht : Live M t (.row (triL acc) true 3)) (hl : acc.length ≤ 1000000000)
    (hA : ∀ M', M'.length = M.length + 2 → Live M' (M.length + 1) (.row (triL (acc ++ [⟨x, y, z⟩])) true 3) → (∀ u, u ≠ t → u < M.length → M'[u]? = M[u]?) → A (.ref (M.length + 1) 0 (acc ++ [(⟨x, y, z⟩ : Cell)]).length) M') :
    appendK 3 24 (.ref t 0 acc.length) (.ref M.length 0 1) (M ++ [some (.row [LV.val (.int .i64 x), LV.val (.int .i64 y), LV.val (.int .i64 z)] true 3)]) A := by
  refine appendK_1 (acc := triL acc) (new := [LV.I x, LV.I y, LV.I z]) ht (by rw [triL_len]) rfl (by omega) (by omega) (by omega) fun M' h1 h2 h3 => ?_
  have := hA M' h1 (by rw [triL_append]; exact h2) h3
  simpa using this

theorem memK_int {M : Mem} {t k : Nat} {xs : List Int} {v : Int} {A : Mem → Prop} (ht : Live M t (.row (intL xs) true 1)) (hk : k < xs.length)
    (hA : ∀ M', M'.length = M.length → Live M' t (.row (intL (xs.set k v)) true 1) → (∀ u, u ≠ t → u < M.length → M'[u]? = M[u]?) → A M') :
    memK (setCells M t k [.val (.int .i64 v)]) A := by
  rw [ht.setC, if_pos (by rw [intL_len]; simp; omega), splice_int hk]
  exact hA _ (by simp) ht.set_eq fun u hu _ => List.getElem?_set_ne (fun e => hu e.symm)
theorem fill_rep {α : Type} {a b : α} {n k : Nat} (h : k < n) : (List.replicate k a ++ List.replicate (n - k) b).set k a = List.replicate (k + 1) a ++ List.replicate (n - (k + 1)) b := by
  rw [List.set_append_right _ _ (by simp), List.length_replicate, Nat.sub_self]
  obtain ⟨m, hm⟩ : ∃ m, n - k = m + 1 := ⟨n - k - 1, by omega⟩
  rw [hm, List.replicate_succ, List.set_cons_zero, show n - (k + 1) = m by omega, List.replicate_succ', List.append_assoc]
  rfl

theorem cmp_keepL {M Me : Mem} {t e : Nat} {cs : List LV} {v ve : LV} (hp : Pre M Me) (ht0 : M.length ≤ t) (ht : Live Me t (.row cs true e)) (hcs : cs.all (LV.lo1 M.length) = true)
    (hv : rn (fun u => if u < M.length then u else if u = M.length then t else u + Me.length) v = ve) : Cmp M Me ve (M ++ [some (.row cs true e)]) v := by
  refine ⟨⟨fun u => if u < M.length then u else if u = M.length then t else u + Me.length, fun u hu => by simp [hu], fun u hu => ?_, fun u blk hl => ?_, fun u u' b b' h h' e => ?_, hv⟩, by simp⟩
  · simp only [List.length_append, List.length_singleton] at hu
    simp only [if_neg (show ¬ u < M.length by omega), if_neg (show ¬ u = M.length by omega)]; omega
  · rcases live_push hl with ⟨h1, h2⟩ | ⟨rfl, rfl⟩
    · refine .inl ⟨?_, h2⟩
      simp only [if_pos h1]
      exact h2.pre hp
    · refine .inr ⟨?_, rfl⟩
      simp only [Nat.lt_irrefl, if_false, if_true]
      unfold Live
      simp only [rnB]
      rw [rn1s_id (n := M.length) (fun u hu => by simp [hu]) hcs]; exact ht
  · have h1 := h.lt
    have h2 := h'.lt
    have h3 := ht.lt
    simp only [List.length_append, List.length_singleton] at h1 h2
    simp only at e
    split at e <;> split at e
    · exact e
    · split at e <;> omega
    · split at e <;> omega
    · omega
end Go.Ab

/- Sets of up to 64 cells as numbers of 64 bits: what operators come to. -/
namespace Go.Ab
open Go

/-- A set, as a number. -/
@[reducible] def LV.W (s : BitVec 64) : LV := .val (.int .u64 ((s.toNat : Nat) : Int))

section
variable {k : IntKind} {a b : Int} {s u : BitVec 64}
theorem bvi_add : binV .add (.val (.int .i64 a)) (.val (.int .i64 b)) = some (.val (.int .i64 (IntKind.i64.wrap (a + b))), True) := bv_add
theorem bvi_sub : binV .sub (.val (.int .i64 a)) (.val (.int .i64 b)) = some (.val (.int .i64 (IntKind.i64.wrap (a - b))), True) := bv_sub
theorem bvi_mul : binV .mul (.val (.int .i64 a)) (.val (.int .i64 b)) = some (.val (.int .i64 (IntKind.i64.wrap (a * b))), True) := bv_mul
theorem bvi_and : binV .and (.val (.int .i64 a)) (.val (.int .i64 b)) = some (.val (.int .i64 (IntKind.i64.wrap ((BitVec.ofInt 64 a &&& BitVec.ofInt 64 b).toNat : Int))), True) := bv_and
theorem bvi_or : binV .or (.val (.int .i64 a)) (.val (.int .i64 b)) = some (.val (.int .i64 (IntKind.i64.wrap ((BitVec.ofInt 64 a ||| BitVec.ofInt 64 b).toNat : Int))), True) := bv_or
theorem bvi_xor : binV .xor (.val (.int .i64 a)) (.val (.int .i64 b)) = some (.val (.int .i64 (IntKind.i64.wrap ((BitVec.ofInt 64 a ^^^ BitVec.ofInt 64 b).toNat : Int))), True) := bv_xor
theorem bvi_shl {k' : IntKind} : binV .shl (.val (.int .i64 a)) (.val (.int k' b)) = some (.val (.int .i64 (IntKind.i64.wrap (a * 2 ^ (min b.toNat 64)))), 0 ≤ b) := bv_shl
theorem bvi_shr {k' : IntKind} : binV .shr (.val (.int .i64 a)) (.val (.int k' b)) = some (.val (.int .i64 (a.fdiv (2 ^ (min b.toNat 64)))), 0 ≤ b) := bv_shr
theorem bvb_add : binV .add (.val (.int .u8 a)) (.val (.int .u8 b)) = some (.val (.int .u8 (IntKind.u8.wrap (a + b))), True) := bv_add
theorem bvb_sub : binV .sub (.val (.int .u8 a)) (.val (.int .u8 b)) = some (.val (.int .u8 (IntKind.u8.wrap (a - b))), True) := bv_sub

theorem uni_neg : unV .neg (.val (.int .i64 a)) = some (.val (.int .i64 (IntKind.i64.wrap (0 - a)))) := un_neg
theorem ofInt_toNat : BitVec.ofInt 64 ((s.toNat : Nat) : Int) = s := by
  apply BitVec.eq_of_toNat_eq
  simp
theorem wrap_toNat : IntKind.u64.wrap ((s.toNat : Nat) : Int) = ((s.toNat : Nat) : Int) := by
  have := s.isLt
  rw [IntKind.wrap_u64]
  omega
theorem w_and : binV .and (.val (.int .u64 ((s.toNat : Nat) : Int))) (.val (.int .u64 ((u.toNat : Nat) : Int))) = some (.val (.int .u64 (((s &&& u).toNat : Nat) : Int)), True) := by
  rw [bv_and]
  show some (LV.val (.int .u64 (IntKind.u64.wrap (((BitVec.ofInt 64 ((s.toNat : Nat) : Int) &&& BitVec.ofInt 64 ((u.toNat : Nat) : Int)).toNat : Nat) : Int))), True) = _
  rw [ofInt_toNat, ofInt_toNat, wrap_toNat]
theorem w_or : binV .or (.val (.int .u64 ((s.toNat : Nat) : Int))) (.val (.int .u64 ((u.toNat : Nat) : Int))) = some (.val (.int .u64 (((s ||| u).toNat : Nat) : Int)), True) := by
  rw [bv_or]
  show some (LV.val (.int .u64 (IntKind.u64.wrap (((BitVec.ofInt 64 ((s.toNat : Nat) : Int) ||| BitVec.ofInt 64 ((u.toNat : Nat) : Int)).toNat : Nat) : Int))), True) = _
  rw [ofInt_toNat, ofInt_toNat, wrap_toNat]
theorem w_xor : binV .xor (.val (.int .u64 ((s.toNat : Nat) : Int))) (.val (.int .u64 ((u.toNat : Nat) : Int))) = some (.val (.int .u64 (((s ^^^ u).toNat : Nat) : Int)), True) := by
  rw [bv_xor]
  show some (LV.val (.int .u64 (IntKind.u64.wrap (((BitVec.ofInt 64 ((s.toNat : Nat) : Int) ^^^ BitVec.ofInt 64 ((u.toNat : Nat) : Int)).toNat : Nat) : Int))), True) = _
  rw [ofInt_toNat, ofInt_toNat, wrap_toNat]
theorem w_not : binV .andNot (.val (.int .u64 ((s.toNat : Nat) : Int))) (.val (.int .u64 ((u.toNat : Nat) : Int))) = some (.val (.int .u64 (((s &&& ~~~u).toNat : Nat) : Int)), True) := by
  rw [bv_not]
  show some (LV.val (.int .u64 (IntKind.u64.wrap (((BitVec.ofInt 64 ((s.toNat : Nat) : Int) &&& ~~~BitVec.ofInt 64 ((u.toNat : Nat) : Int)).toNat : Nat) : Int))), True) = _
  rw [ofInt_toNat, ofInt_toNat, wrap_toNat]
theorem w_and1 : binV .and (.val (.int .u64 ((s.toNat : Nat) : Int))) (.val (.int .u64 1)) = some (.val (.int .u64 (((s &&& 1#64).toNat : Nat) : Int)), True) := by
  have h := w_and (s := s) (u := 1#64)
  rw [show (((1#64).toNat : Nat) : Int) = 1 from rfl] at h; exact h
theorem w_or0 : binV .or (.val (.int .u64 0)) (.val (.int .u64 ((u.toNat : Nat) : Int))) = some (.val (.int .u64 (((0#64 ||| u).toNat : Nat) : Int)), True) := by
  have h := w_or (s := 0#64) (u := u)
  rw [show (((0#64).toNat : Nat) : Int) = 0 from rfl] at h; exact h
theorem w_shl1 {k' : IntKind} : binV .shl (.val (.int .u64 1)) (.val (.int k' b)) = some (.val (.int .u64 (((1#64 <<< b.toNat).toNat : Nat) : Int)), 0 ≤ b) := by
  rw [bv_shl]
  congr 1
  rw [show (IntKind.u64.wrap (1 * 2 ^ (min b.toNat IntKind.u64.bits))) = (((1#64 <<< b.toNat).toNat : Nat) : Int) from ?_]
  rw [IntKind.wrap_u64, Int.one_mul, BitVec.toNat_shiftLeft, Nat.shiftLeft_eq]
  show (2 : Int) ^ min b.toNat 64 % 18446744073709551616 = _
  rcases Nat.lt_or_ge b.toNat 64 with h | h
  · rw [Nat.min_eq_left (Nat.le_of_lt h)]
    simp
  · rw [Nat.min_eq_right h]
    have e : (1#64).toNat * 2 ^ b.toNat % 2 ^ 64 = 0 := by
      obtain ⟨d, hd⟩ : ∃ d, b.toNat = 64 + d := ⟨b.toNat - 64, by omega⟩
      rw [hd, Nat.pow_add]
      simp
    rw [e]; rfl
theorem w_shr {k' : IntKind} : binV .shr (.val (.int .u64 ((s.toNat : Nat) : Int))) (.val (.int k' b)) = some (.val (.int .u64 (((s >>> b.toNat).toNat : Nat) : Int)), 0 ≤ b) := by
  rw [bv_shr]
  congr 1
  rw [show (((s.toNat : Nat) : Int).fdiv (2 ^ (min b.toNat IntKind.u64.bits))) = (((s >>> b.toNat).toNat : Nat) : Int) from ?_]
  rw [Int.fdiv_eq_ediv_of_nonneg _ (Int.pow_nonneg (by decide)), BitVec.toNat_ushiftRight, Nat.shiftRight_eq_div_pow]
  show ((s.toNat : Nat) : Int) / 2 ^ min b.toNat 64 = _
  rcases Nat.lt_or_ge b.toNat 64 with h | h
  · rw [Nat.min_eq_left (Nat.le_of_lt h)]
    push_cast
    rfl
  · rw [Nat.min_eq_right h]
    have h1 : s.toNat < 2 ^ 64 := s.isLt
    have h2 : s.toNat / 2 ^ b.toNat = 0 := Nat.div_eq_of_lt (Nat.lt_of_lt_of_le h1 (Nat.pow_le_pow_right (by decide) h))
    rw [h2]
    omega
theorem w_sub1 : binV .sub (.val (.int .u64 ((s.toNat : Nat) : Int))) (.val (.int .u64 1)) = some (.val (.int .u64 (((s - 1#64).toNat : Nat) : Int)), True) := by
  rw [bv_sub, IntKind.wrap_u64, BitVec.toNat_sub]
  have := s.isLt
  congr 4
  show (((s.toNat : Nat) : Int) - 1) % 18446744073709551616 = (((2 ^ 64 - 1 + s.toNat) % 2 ^ 64 : Nat) : Int)
  omega
theorem w_neg : unV .neg (.val (.int .u64 ((s.toNat : Nat) : Int))) = some (.val (.int .u64 (((-s).toNat : Nat) : Int))) := by
  rw [un_neg, IntKind.wrap_u64, BitVec.toNat_neg]
  have := s.isLt
  congr 3
  show (0 - ((s.toNat : Nat) : Int)) % 18446744073709551616 = (((2 ^ 64 - s.toNat) % 2 ^ 64 : Nat) : Int)
  omega
theorem w_inj : (((s.toNat : Nat) : Int) = ((u.toNat : Nat) : Int)) = (s = u) := by
  refine propext ⟨fun h => BitVec.eq_of_toNat_eq (by omega), fun h => by rw [h]⟩
theorem w_eq0 : (((s.toNat : Nat) : Int) = 0) = (s = 0#64) := by
  refine propext ⟨fun h => BitVec.eq_of_toNat_eq (by simp; omega), fun h => by rw [h]; rfl⟩
theorem w_eq1 : (((s.toNat : Nat) : Int) = 1) = (s = 1#64) := by
  refine propext ⟨fun h => BitVec.eq_of_toNat_eq (by simp; omega), fun h => by rw [h]; rfl⟩
end
end Go.Ab

/- The rules of the walk, bundled. -/
namespace Go.Ab
open Go
def SXd := (And.intro (And.intro (And.intro (And.intro (And.intro (And.intro @evc_skip (And.intro @evc_ops @evc_draw)) (And.intro (And.intro @evc_seq @evc_cond) (And.intro @evc_block @evc_exit))) (And.intro (And.intro @evc_ret (And.intro @opsK_r @putK_r)) (And.intro (And.intro @cntK_r @seqK_n) (And.intro @seqK_e @seqK_r)))) (And.intro (And.intro (And.intro @evdK_r (And.intro @evd1K_r @evd2K_r)) (And.intro (And.intro @endQ_r @endQ_n) (And.intro @endR_r @endR_n))) (And.intro (And.intro @thenK_n (And.intro @thenK_e @thenK_r)) (And.intro (And.intro @blockK_n @blockK_e) (And.intro @blockK_r @evops_n))))) (And.intro (And.intro (And.intro (And.intro @evops_c (And.intro @evg_n @evg_s)) (And.intro (And.intro @evd_n @ev_mv) (And.intro @ev_pick @ev_bin))) (And.intro (And.intro @ev_eqs (And.intro @ev_eqb @ev_un)) (And.intro (And.intro @ev_conv @ev_build) (And.intro @ev_load1 @ev_loadN)))) (And.intro (And.intro (And.intro @ev_nilck (And.intro @ev_mkf @ev_slS)) (And.intro (And.intro @ev_slA @ev_slT) (And.intro @ev_fieldAddr @ev_field))) (And.intro (And.intro @ev_idxS (And.intro @ev_idxA @ev_index)) (And.intro (And.intro @ev_idxT @ev_lookup) (And.intro @ev_extract @ev_len)))))) (And.intro (And.intro (And.intro (And.intro (And.intro @ev_lenT (And.intro @ev_mm @ev_any)) (And.intro (And.intro @ev_box @ev_alloc) (And.intro @ev_buildSl @ev_mksl))) (And.intro (And.intro @ev_mkmap (And.intro @ev_sl0 @ev_store)) (And.intro (And.intro @ev_append @ev_copy) (And.intro @ev_call @ev_callV)))) (And.intro (And.intro (And.intro @ev_clear (And.intro @evd_mv @evd_pick)) (And.intro (And.intro @evd_bin @evd_eqs) (And.intro @evd_eqb @evd_un))) (And.intro (And.intro @evd_conv (And.intro @evd_build @evd_load1)) (And.intro (And.intro @evd_loadN @evd_nilck) (And.intro @evd_mkf @evd_slS))))) (And.intro (And.intro (And.intro (And.intro @evd_slA (And.intro @evd_slT @evd_fieldAddr)) (And.intro (And.intro @evd_field @evd_idxS) (And.intro @evd_idxA @evd_index))) (And.intro (And.intro @evd_idxT (And.intro @evd_lookup @evd_extract)) (And.intro (And.intro @evd_len @evd_lenT) (And.intro @evd_mm @evd_any)))) (And.intro (And.intro (And.intro @evd_box (And.intro @evd_alloc @evd_buildSl)) (And.intro (And.intro @evd_mksl @evd_mkmap) (And.intro @evd_sl0 @evd_store))) (And.intro (And.intro (And.intro @evd_append @evd_copy) (And.intro @evd_clear @evd_mupd)) (And.intro (And.intro @evd_call @evd_callV) (And.intro @upd_at @selL_n)))))))
def SXu := (And.intro (And.intro (And.intro (And.intro (And.intro (And.intro (And.intro @clearK_r (And.intro @ev_t @ev_c)) (And.intro @pick_dt (And.intro @pick_df @sopK_s))) (And.intro (And.intro @aopK_s (And.intro @memK_s @appK_s)) (And.intro @storeK_v (And.intro @storeK_r @storeK_p)))) (And.intro (And.intro (And.intro @storeK_m (And.intro @storeK_f @storeK_a)) (And.intro @andK_t (And.intro @andK_d @condC_dt))) (And.intro (And.intro @condC_df (And.intro @guardO_dtt @guardO_dtf)) (And.intro (And.intro @guardO_dft @guardO_dff) (And.intro @wrap_id @condC_t))))) (And.intro (And.intro (And.intro (And.intro @condC_f (And.intro @condC_not @guardO_tt)) (And.intro @guardO_ff (And.intro @guardO_tf @guardO_ft))) (And.intro (And.intro @guardO_not (And.intro @guardO_u @guardO_ud)) (And.intro @putO_s (And.intro @putO_n @callVK_c)))) (And.intro (And.intro (And.intro @bvi_add (And.intro @bvi_sub @bvi_mul)) (And.intro @bvi_and (And.intro @bvi_or @bvi_xor))) (And.intro (And.intro @bvi_shl (And.intro @bvi_shr @bvb_add)) (And.intro (And.intro @bvb_sub @uni_neg) (And.intro @w_and @w_or)))))) (And.intro (And.intro (And.intro (And.intro (And.intro @w_xor (And.intro @w_not @w_and1)) (And.intro @w_or0 (And.intro @w_shl1 @w_shr))) (And.intro (And.intro @w_sub1 (And.intro @w_neg @w_inj)) (And.intro @w_eq0 (And.intro @w_eq1 @bv_quo)))) (And.intro (And.intro (And.intro @bv_rem (And.intro @bv_eql @bv_neq)) (And.intro @bv_lss (And.intro @bv_leq @bv_gtr))) (And.intro (And.intro @bv_geq (And.intro @eb_eq @eb_ne)) (And.intro (And.intro @eqo_t @eqo_b) (And.intro @eqo_n @nil_r))))) (And.intro (And.intro (And.intro (And.intro @nil_n (And.intro @un_not @len_ref)) (And.intro @len_nil (And.intro @intV_i @setC_0))) (And.intro (And.intro @setC_j (And.intro @row_0 @row_j)) (And.intro @esz_0 (And.intro @esz_j @cell_0)))) (And.intro (And.intro (And.intro @cell_j (And.intro @cells_0 @cells_j)) (And.intro @len_app (And.intro @rowL_z @rowL_s))) (And.intro (And.intro @eszL_z (And.intro @eszL_s @cellL_z)) (And.intro (And.intro @cellL_s @cellsL_z) (And.intro @cellsL_s @setL_z))))))) (And.intro (And.intro (And.intro (And.intro (And.intro (And.intro @setL_s (And.intro @List.append_assoc.{0} @List.cons_append.{0})) (And.intro @List.nil_append.{0} (And.intro @List.length_cons.{0} @List.length_nil.{0}))) (And.intro (And.intro @List.getD_cons_zero.{0} (And.intro @List.getD_cons_succ.{0} @List.getD_nil.{0})) (And.intro @List.getElem?_cons_zero.{0} (And.intro @List.getElem?_cons_succ.{0} @List.map_cons.{0,0})))) (And.intro (And.intro (And.intro @List.map_nil.{0,0} (And.intro @Option.map_some.{0,0} @Option.bind_some.{0,0})) (And.intro @decide_true (And.intro @decide_false @Bool.not_true))) (And.intro (And.intro @Bool.not_false (And.intro @Nat.add_zero @Nat.zero_add)) (And.intro (And.intro @Nat.le_refl @true_and) (And.intro @and_true @Bool.false_eq_true))))) (And.intro (And.intro (And.intro (And.intro @List.drop_zero.{0} (And.intro @List.take_succ_cons.{0} @List.take_zero.{0})) (And.intro @List.drop_succ_cons.{0} (And.intro @beq_self_eq_true.{0} @Option.some.injEq.{0}))) (And.intro (And.intro @Int.toNat_natCast (And.intro @Nat.mul_one @Nat.mul_zero)) (And.intro @Nat.zero_mul (And.intro @Nat.one_mul @List.set_cons_zero.{0})))) (And.intro (And.intro (And.intro @List.set_cons_succ.{0} (And.intro @maskM_n @unmask_n)) (And.intro @keepL_n (And.intro @keepL_refl @keepL_app))) (And.intro (And.intro @ifo_pos (And.intro @selL_c @maskM_c)) (And.intro (And.intro @unmask_c @keepL_c) (And.intro @join_ss @keep1_refl)))))) (And.intro (And.intro (And.intro (And.intro (And.intro @at_0 (And.intro @at_j @set_0)) (And.intro @set_j (And.intro @add1_ne @imp_self))) (And.intro (And.intro @and_self (And.intro @spl_10 @spl_20)) (And.intro @spl_21 (And.intro @spl_30 @spl_31)))) (And.intro (And.intro (And.intro @spl_32 (And.intro @spl_40 @spl_41)) (And.intro @spl_42 (And.intro @spl_43 @spl_3r))) (And.intro (And.intro @spl_4r (And.intro @spl_2r @spl_5r)) (And.intro (And.intro @spl_50 @spl_51) (And.intro @spl_52 @spl_53))))) (And.intro (And.intro (And.intro (And.intro @spl_54 (And.intro @spl_6r @spl_60)) (And.intro @spl_61 (And.intro @spl_62 @spl_63))) (And.intro (And.intro @spl_64 (And.intro @spl_65 @spl_7r)) (And.intro @spl_70 (And.intro @spl_71 @spl_72)))) (And.intro (And.intro (And.intro @spl_73 (And.intro @spl_74 @spl_75)) (And.intro @spl_76 (And.intro @spl_8r @spl_80))) (And.intro (And.intro @spl_81 (And.intro @spl_82 @spl_83)) (And.intro (And.intro @spl_84 @spl_85) (And.intro @spl_86 @spl_87))))))))
end Go.Ab

/- The abstract code of some functions (written by a program of mine from the translation, by way of prepF). -/
namespace Go.Ab.C
open Go.Ab
def spec_StepColumns : AFn :=
  ⟨3, 23, [.tmp 6, .tmp 7],
    .seq (.ops [(none, .box 3 (.t 0)),
       (none, .mv 6 (.c .nil)),
       (none, .mv 7 (.c (.B false)))])
    (.seq (.seq (.ops [(none, .loadN 8 4 (.t 3)),
         (none, .mv 9 (.t 1)),
         (none, .call (some 10) F.spec_l10Column [(.t 8), (.t 9)]),
         (none, .un 11 .not (.t 10)),
         (none, .mv 12 (.t 11)),
         (some (12, false), .mv 13 (.t 2)),
         (some (12, false), .bin 14 .lss (.t 13) (.c (.I 0))),
         (none, .pick 15 (.t 12) (.c (.B true)) (.t 14))])
      (.cond (.t 15) (.seq (.ops [(none, .buildSl 16 0 1 [] []),
           (none, .mv 6 (.t 16)),
           (none, .mv 7 (.c (.B false)))])
        (.ret))
       (.skip)))
     (.seq (.draw [⟨(none, .loadN 17 4 (.t 3)), [], []⟩,
         ⟨(none, .loadN 18 4 (.t 3)), [], []⟩,
         ⟨(none, .mv 20 (.t 1)), [], []⟩,
         ⟨(none, .mv 21 (.t 2)), [], []⟩,
         ⟨(none, .call (some 19) F.spec_l2Tops [(.t 18)]), [], [0, 2, 3]⟩,
         ⟨(none, .call (some 22) F.spec_l10Steps [(.t 17), (.t 19), (.t 20), (.t 21)]), [], []⟩,
         ⟨(none, .mv 6 (.t 22)), [], []⟩,
         ⟨(none, .mv 7 (.c (.B true))), [], []⟩])
      (.ret)))⟩
def spec_WalkClimb : AFn :=
  ⟨2, 84, [.tmp 4, .tmp 5, .tmp 6],
    .seq (.ops [(none, .box 2 (.t 0)),
       (none, .mv 4 (.c (.I 0))),
       (none, .mv 5 (.c (.I 0))),
       (none, .mv 6 (.c (.B false)))])
    (.seq (.ops [(none, .mv 7 (.c (.I 0))),
        (none, .mv 8 (.c (.I 0)))])
     (.seq (.seq (.ops [(none, .loadN 12 4 (.t 2)),
          (none, .call (some 13) F.spec_l2Heap [(.t 12)]),
          (none, .un 14 .not (.t 13)),
          (none, .mv 15 (.t 14)),
          (some (15, false), .mv 16 (.t 1)),
          (some (15, false), .len 17 (.t 16)),
          (some (15, false), .bin 18 .eql (.t 17) (.c (.I 0))),
          (none, .pick 19 (.t 15) (.c (.B true)) (.t 18))])
       (.cond (.t 19) (.seq (.ops [(none, .mv 4 (.c (.I 0))),
            (none, .mv 5 (.c (.I 0))),
            (none, .mv 6 (.c (.B false)))])
         (.ret))
        (.skip)))
      (.seq (.ops [(none, .loadN 20 4 (.t 2)),
          (none, .call (some 21) F.spec_l2Tops [(.t 20)]),
          (none, .mv 9 (.t 21))])
       (.seq (.seq (.ops [(none, .mv 10 (.c (.I 0)))])
         (.block 0 (.loop (.seq (.seq (.ops [(none, .mv 22 (.t 10)),
                (none, .mv 23 (.t 1)),
                (none, .len 24 (.t 23)),
                (none, .bin 25 .lss (.t 22) (.t 24))])
             (.cond (.t 25) (.skip)
              (.exit 0)))
            (.seq (.block 1 (.seq (.seq (.draw [⟨(none, .loadN 28 4 (.t 2)), [], []⟩,
                   ⟨(none, .mv 29 (.t 1)), [], []⟩,
                   ⟨(none, .mv 30 (.t 10)), [], []⟩,
                   ⟨(none, .idxS 31 1 (.t 29) (.t 30)), [], []⟩,
                   ⟨(none, .load1 32 (.t 31)), [], []⟩,
                   ⟨(none, .call (some 33) F.spec_l10Column [(.t 28), (.t 32)]), [], []⟩,
                   ⟨(none, .un 34 .not (.t 33)), [], []⟩,
                   ⟨(none, .mv 35 (.t 34)), [], []⟩,
                   ⟨(some (35, false), .mv 36 (.t 10)), [], []⟩,
                   ⟨(some (35, false), .bin 37 .gtr (.t 36) (.c (.I 0))), [], []⟩,
                   ⟨(some (35, false), .mv 38 (.t 37)), [], []⟩,
                   ⟨(some (38, true), .loadN 39 4 (.t 2)), [], []⟩,
                   ⟨(some (38, true), .mv 40 (.t 1)), [], []⟩,
                   ⟨(some (38, true), .mv 41 (.t 10)), [], []⟩,
                   ⟨(some (38, true), .bin 42 .sub (.t 41) (.c (.I 1))), [], []⟩,
                   ⟨(some (38, true), .idxS 43 1 (.t 40) (.t 42)), [], []⟩,
                   ⟨(some (38, true), .load1 44 (.t 43)), [], []⟩,
                   ⟨(some (38, true), .mv 46 (.t 1)), [], []⟩,
                   ⟨(some (38, true), .mv 47 (.t 10)), [], []⟩,
                   ⟨(some (38, true), .idxS 48 1 (.t 46) (.t 47)), [], []⟩,
                   ⟨(some (38, true), .load1 49 (.t 48)), [], []⟩,
                   ⟨(some (38, true), .call (some 45) F.spec_l10Next [(.t 39), (.t 44)]), [], [17, 18, 19, 20]⟩,
                   ⟨(some (38, true), .call (some 50) F.spec_l1Has [(.t 45), (.t 49)]), [], []⟩,
                   ⟨(some (38, true), .un 51 .not (.t 50)), [], []⟩,
                   ⟨(some (35, false), .pick 52 (.t 38) (.t 51) (.c (.B false))), [], []⟩,
                   ⟨(none, .pick 53 (.t 35) (.c (.B true)) (.t 52)), [], []⟩])
                (.cond (.t 53) (.seq (.ops [(none, .mv 4 (.c (.I 0))),
                     (none, .mv 5 (.c (.I 0))),
                     (none, .mv 6 (.c (.B false)))])
                  (.ret))
                 (.skip)))
               (.seq (.ops [(none, .mv 54 (.t 10)),
                   (none, .bin 55 .gtr (.t 54) (.c (.I 0)))])
                (.cond (.t 55) (.seq (.draw [⟨(none, .mv 56 (.t 9)), [], []⟩,
                     ⟨(none, .mv 57 (.t 1)), [], []⟩,
                     ⟨(none, .mv 58 (.t 10)), [], []⟩,
                     ⟨(none, .idxS 59 1 (.t 57) (.t 58)), [], []⟩,
                     ⟨(none, .load1 60 (.t 59)), [], []⟩,
                     ⟨(none, .idxS 61 1 (.t 56) (.t 60)), [], []⟩,
                     ⟨(none, .load1 62 (.t 61)), [], []⟩,
                     ⟨(none, .mv 63 (.t 9)), [], []⟩,
                     ⟨(none, .mv 64 (.t 1)), [], []⟩,
                     ⟨(none, .mv 65 (.t 10)), [], []⟩,
                     ⟨(none, .bin 66 .sub (.t 65) (.c (.I 1))), [], []⟩,
                     ⟨(none, .idxS 67 1 (.t 64) (.t 66)), [], []⟩,
                     ⟨(none, .load1 68 (.t 67)), [], []⟩,
                     ⟨(none, .idxS 69 1 (.t 63) (.t 68)), [], []⟩,
                     ⟨(none, .load1 70 (.t 69)), [], []⟩,
                     ⟨(none, .bin 71 .sub (.t 62) (.t 70)), [], []⟩,
                     ⟨(none, .mv 11 (.t 71)), [], []⟩])
                  (.seq (.ops [(none, .mv 72 (.t 7)),
                      (none, .mv 73 (.t 11)),
                      (none, .mv 74 (.t 11)),
                      (none, .un 75 .neg (.t 74)),
                      (none, .call (some 76) F.spec_l1Most [(.t 73), (.t 75)]),
                      (none, .call (some 77) F.spec_l1Most [(.t 72), (.t 76)]),
                      (none, .mv 7 (.t 77))])
                   (.ops [(none, .mv 78 (.t 8)),
                      (none, .mv 79 (.t 11)),
                      (none, .call (some 80) F.spec_l1Most [(.t 79), (.c (.I 0))]),
                      (none, .bin 81 .add (.t 78) (.t 80)),
                      (none, .mv 8 (.t 81))])))
                 (.skip)))))
             (.ops [(none, .mv 26 (.t 10)),
                (none, .bin 27 .add (.t 26) (.c (.I 1))),
                (none, .mv 10 (.t 27))]))))))
        (.seq (.ops [(none, .mv 82 (.t 7)),
            (none, .mv 83 (.t 8)),
            (none, .mv 4 (.t 82)),
            (none, .mv 5 (.t 83)),
            (none, .mv 6 (.c (.B true)))])
         (.ret))))))⟩
def impl_StepColumns : AFn :=
  ⟨3, 19, [.tmp 6, .tmp 7],
    .seq (.ops [(none, .box 3 (.t 0)),
       (none, .mv 6 (.c .nil)),
       (none, .mv 7 (.c (.B false)))])
    (.seq (.seq (.ops [(none, .loadN 8 4 (.t 3)),
         (none, .mv 9 (.t 2)),
         (none, .mv 10 (.t 1)),
         (none, .buildSl 11 1 1 [(.I 0)] [(0, 1, (.t 10))]),
         (none, .call (some 12) F.impl_isTop [(.t 8), (.t 9), (.t 11)]),
         (none, .un 13 .not (.t 12))])
      (.cond (.t 13) (.seq (.ops [(none, .mv 6 (.c .nil)),
           (none, .mv 7 (.c (.B false)))])
        (.ret))
       (.skip)))
     (.seq (.ops [(none, .loadN 14 4 (.t 3)),
         (none, .call (some 15) F.impl_Heap_top [(.t 14)]),
         (none, .mv 16 (.t 1)),
         (none, .mv 17 (.t 2)),
         (none, .call (some 18) F.impl_top_steps [(.t 15), (.t 16), (.t 17)]),
         (none, .mv 6 (.t 18)),
         (none, .mv 7 (.c (.B true)))])
      (.ret)))⟩
def impl_WalkClimb : AFn :=
  ⟨2, 67, [.tmp 4, .tmp 5, .tmp 6],
    .seq (.ops [(none, .box 2 (.t 0)),
       (none, .mv 4 (.c (.I 0))),
       (none, .mv 5 (.c (.I 0))),
       (none, .mv 6 (.c (.B false)))])
    (.seq (.seq (.ops [(none, .loadN 13 4 (.t 2)),
         (none, .mv 14 (.t 1)),
         (none, .call (some 15) F.impl_isTop [(.t 13), (.c (.I 0)), (.t 14)]),
         (none, .un 16 .not (.t 15)),
         (none, .mv 17 (.t 16)),
         (some (17, false), .mv 18 (.t 1)),
         (some (17, false), .len 19 (.t 18)),
         (some (17, false), .bin 20 .eql (.t 19) (.c (.I 0))),
         (none, .pick 21 (.t 17) (.c (.B true)) (.t 20))])
      (.cond (.t 21) (.seq (.ops [(none, .mv 4 (.c (.I 0))),
           (none, .mv 5 (.c (.I 0))),
           (none, .mv 6 (.c (.B false)))])
        (.ret))
       (.skip)))
     (.seq (.ops [(none, .loadN 22 4 (.t 2)),
         (none, .call (some 23) F.impl_Heap_top [(.t 22)]),
         (none, .alloc 7 [.nil, (.I 0)]),
         (none, .store 2 (.t 7) (.t 23)),
         (none, .mv 8 (.c (.I 0))),
         (none, .mv 9 (.c (.I 0)))])
      (.seq (.seq (.ops [(none, .mv 10 (.c (.I 1)))])
        (.block 0 (.loop (.seq (.seq (.ops [(none, .mv 24 (.t 10)),
               (none, .mv 25 (.t 1)),
               (none, .len 26 (.t 25)),
               (none, .bin 27 .lss (.t 24) (.t 26))])
            (.cond (.t 27) (.skip)
             (.exit 0)))
           (.seq (.block 1 (.seq (.draw [⟨(none, .mv 30 (.t 1)), [], []⟩,
                 ⟨(none, .mv 31 (.t 10)), [], []⟩,
                 ⟨(none, .bin 32 .sub (.t 31) (.c (.I 1))), [], []⟩,
                 ⟨(none, .idxS 33 1 (.t 30) (.t 32)), [], []⟩,
                 ⟨(none, .load1 34 (.t 33)), [], []⟩,
                 ⟨(none, .mv 35 (.t 1)), [], []⟩,
                 ⟨(none, .mv 36 (.t 10)), [], []⟩,
                 ⟨(none, .idxS 37 1 (.t 35) (.t 36)), [], []⟩,
                 ⟨(none, .load1 38 (.t 37)), [], []⟩,
                 ⟨(none, .mv 11 (.t 34)), [], []⟩,
                 ⟨(none, .mv 12 (.t 38)), [], []⟩])
              (.seq (.seq (.ops [(none, .loadN 39 2 (.t 7)),
                   (none, .mv 40 (.t 11)),
                   (none, .call (some 41) F.impl_top_near [(.t 39), (.t 40)]),
                   (none, .mv 42 (.t 12)),
                   (none, .call (some 43) F.slices_Contains_Sint_int [(.t 41), (.t 42)]),
                   (none, .un 44 .not (.t 43))])
                (.cond (.t 44) (.seq (.ops [(none, .mv 4 (.c (.I 0))),
                     (none, .mv 5 (.c (.I 0))),
                     (none, .mv 6 (.c (.B false)))])
                  (.ret))
                 (.skip)))
               (.draw [⟨(none, .mv 45 (.t 8)), [], []⟩,
                  ⟨(none, .loadN 46 2 (.t 7)), [], []⟩,
                  ⟨(none, .mv 47 (.t 11)), [], []⟩,
                  ⟨(none, .mv 48 (.t 12)), [], []⟩,
                  ⟨(none, .mv 51 (.t 9)), [], []⟩,
                  ⟨(none, .fieldAddr 52 (.t 7) 0), [], []⟩,
                  ⟨(none, .load1 53 (.t 52)), [], []⟩,
                  ⟨(none, .mv 54 (.t 12)), [], []⟩,
                  ⟨(none, .idxS 55 1 (.t 53) (.t 54)), [], []⟩,
                  ⟨(none, .load1 56 (.t 55)), [], []⟩,
                  ⟨(none, .fieldAddr 57 (.t 7) 0), [], []⟩,
                  ⟨(none, .load1 58 (.t 57)), [], []⟩,
                  ⟨(none, .mv 59 (.t 11)), [], []⟩,
                  ⟨(none, .idxS 60 1 (.t 58) (.t 59)), [], []⟩,
                  ⟨(none, .load1 61 (.t 60)), [], []⟩,
                  ⟨(none, .bin 62 .sub (.t 56) (.t 61)), [], []⟩,
                  ⟨(none, .mm 63 true [(.c (.I 0)), (.t 62)]), [], []⟩,
                  ⟨(none, .bin 64 .add (.t 51) (.t 63)), [], []⟩,
                  ⟨(none, .call (some 49) F.impl_top_apart [(.t 46), (.t 47), (.t 48)]), [], [0, 4, 5, 6, 7, 8, 9, 10, 11, 12, 13, 14, 15, 16, 17]⟩,
                  ⟨(none, .mm 50 true [(.t 45), (.t 49)]), [], []⟩,
                  ⟨(none, .mv 8 (.t 50)), [], []⟩,
                  ⟨(none, .mv 9 (.t 64)), [], []⟩]))))
            (.ops [(none, .mv 28 (.t 10)),
               (none, .bin 29 .add (.t 28) (.c (.I 1))),
               (none, .mv 10 (.t 29))]))))))
       (.seq (.ops [(none, .mv 65 (.t 8)),
           (none, .mv 66 (.t 9)),
           (none, .mv 4 (.t 65)),
           (none, .mv 5 (.t 66)),
           (none, .mv 6 (.c (.B true)))])
        (.ret)))))⟩
def impl_TopHeights : AFn :=
  ⟨1, 9, [.tmp 2, .tmp 3],
    .seq (.ops [(none, .box 1 (.t 0)),
       (none, .mv 2 (.c .nil)),
       (none, .mv 3 (.c (.B false)))])
    (.seq (.seq (.ops [(none, .loadN 4 4 (.t 1)),
         (none, .call (some 5) F.impl_IsHeap [(.t 4)]),
         (none, .un 6 .not (.t 5))])
      (.cond (.t 6) (.seq (.ops [(none, .mv 2 (.c .nil)),
           (none, .mv 3 (.c (.B false)))])
        (.ret))
       (.skip)))
     (.seq (.ops [(none, .loadN 7 4 (.t 1)),
         (none, .call (some 8) F.impl_Heap_heights [(.t 7)]),
         (none, .mv 2 (.t 8)),
         (none, .mv 3 (.c (.B true)))])
      (.ret)))⟩
def slices_Contains_Sint_int : AFn :=
  ⟨2, 9, [.tmp 4],
    .seq (.ops [(none, .mv 4 (.c (.B false)))])
    (.seq (.ops [(none, .mv 5 (.t 0)),
        (none, .mv 6 (.t 1)),
        (none, .call (some 7) F.slices_Index_Sint_int [(.t 5), (.t 6)]),
        (none, .bin 8 .geq (.t 7) (.c (.I 0))),
        (none, .mv 4 (.t 8))])
     (.ret))⟩
def slices_Index_Sint_int : AFn :=
  ⟨2, 19, [.tmp 4],
    .seq (.ops [(none, .mv 4 (.c (.I 0)))])
    (.seq (.seq (.ops [(none, .mv 6 (.t 0)),
         (none, .len 7 (.t 6)),
         (none, .mv 8 (.c (.I 0)))])
      (.block 0 (.loop (.seq (.ops [(none, .bin 9 .lss (.t 8) (.t 7))])
         (.seq (.cond (.t 9) (.skip)
           (.exit 0))
          (.seq (.block 1 (.seq (.ops [(none, .mv 10 (.t 8)),
                (none, .mv 5 (.t 10))])
             (.seq (.ops [(none, .mv 11 (.t 1)),
                 (none, .mv 12 (.t 0)),
                 (none, .mv 13 (.t 5)),
                 (none, .idxS 14 1 (.t 12) (.t 13)),
                 (none, .load1 15 (.t 14)),
                 (none, .bin 16 .eql (.t 11) (.t 15))])
              (.cond (.t 16) (.seq (.ops [(none, .mv 17 (.t 5)),
                   (none, .mv 4 (.t 17))])
                (.ret))
               (.skip)))))
           (.ops [(none, .bin 18 .add (.t 8) (.c (.I 1))),
              (none, .mv 8 (.t 18))])))))))
     (.seq (.ops [(none, .mv 4 (.c (.I (-1))))])
      (.ret)))⟩
end Go.Ab.C

/- That the program has this code. -/
namespace Go.Ab.K
open Go Go.Ab
theorem spec_StepColumns : prepF Go.Proofs.Try.prog F.spec_StepColumns = some C.spec_StepColumns := by kernel_rfl
theorem spec_WalkClimb : prepF Go.Proofs.Try.prog F.spec_WalkClimb = some C.spec_WalkClimb := by kernel_rfl
theorem impl_StepColumns : prepF Go.Proofs.Try.prog F.impl_StepColumns = some C.impl_StepColumns := by kernel_rfl
theorem impl_WalkClimb : prepF Go.Proofs.Try.prog F.impl_WalkClimb = some C.impl_WalkClimb := by kernel_rfl
theorem impl_TopHeights : prepF Go.Proofs.Try.prog F.impl_TopHeights = some C.impl_TopHeights := by kernel_rfl
theorem slices_Contains_Sint_int : prepF Go.Proofs.Try.prog F.slices_Contains_Sint_int = some C.slices_Contains_Sint_int := by kernel_rfl
theorem slices_Index_Sint_int : prepF Go.Proofs.Try.prog F.slices_Index_Sint_int = some C.slices_Index_Sint_int := by kernel_rfl
end Go.Ab.K
