/-
 The functions, as the abstract machine's: numbers and texts. By program.
-/
import Derived.Test.YtcdbpkfbnhjgdaaGreatDoorAmTab
set_option linter.all false
set_option linter.unusedVariables false
set_option linter.unusedSimpArgs false
set_option linter.unusedSectionVars false
set_option maxRecDepth 100000
namespace Go.Proofs.YtcdbpkfbnhjgdaaGreatDoor
open Go.Proofs.YtcdbpkfbnhjgdaaGreatDoor.Am
def f_touchstonelaw13_MovesNames : Nat := 7
def f_ftree_New : Nat := 16
def f_ftree_Tree_Root : Nat := 18
def f_touchstoneref07_Same : Nat := 19
def f_ftree_Well : Nat := 20
def f_ftree_Tree_Kind : Nat := 24
def f_walk_Spot : Nat := 25
def f_walk_Find : Nat := 26
def f_touchstonelaw13_works : Nat := 27
def f_path_Check : Nat := 30
def f_moves_Run : Nat := 32
def f_touchstonelaw13_dir : Nat := 33
def f_moves_Why : Nat := 34
def f_touchstonelaw13_file : Nat := 35
def f_touchstonelaw13_link : Nat := 36
def f_touchstonelaw13_many : Nat := 37
def f_touchstonelaw13_runs : Nat := 38
def f_touchstonelaw13_done : Nat := 39
def f_ftree_Nodes : Nat := 42
def f_ftree_May : Nat := 67
def f_ftree_own : Nat := 68
def f_opts_Parse : Nat := 70
def f_strings_IndexByte : Nat := 71
def f_path_Name : Nat := 72
def f_ftree_Tree_at : Nat := 73
def f_walk_walk : Nat := 74
def f_strings_Contains : Nat := 75
def f_path_steps : Nat := 76
def f_strings_Join : Nat := 77
def f_moves_utilities : Nat := 78
def f_opts_Opts_Has : Nat := 79
def f_moves_call_refuse : Nat := 80
def f_moves_call_look : Nat := 81
def f_moves_call_source : Nat := 82
def f_path_Last : Nat := 83
def f_ftree_find : Nat := 84
def f_pat_May : Nat := 108
def f_slices_Clone_string_string : Nat := 110
def f_ftree_depth : Nat := 115
def f_opts_letter : Nat := 122
def f_internal_stringslite_IndexByte : Nat := 123
def f_strings_ContainsAny : Nat := 124
def f_path_Steps : Nat := 125
def f_path_Dir : Nat := 126
def f_walk_walker_run : Nat := 127
def f_strings_Index : Nat := 128
def f_path_steps_1 : Nat := 129
def f_strings_SplitSeq : Nat := 130
def f_strings_Builder_Grow : Nat := 131
def f_strings_Builder_WriteString : Nat := 132
def f_strings_Builder_String : Nat := 133
def f_moves_spot : Nat := 134
def f_moves_itself : Nat := 135
def f_moves_rename : Nat := 136
def f_moves_find : Nat := 137
def f_moves_there : Nat := 138
def f_moves_copyOf : Nat := 139
def f_moves_text : Nat := 140
def f_moves_link : Nat := 141
def f_moves_call_lost : Nat := 142
def f_moves_call_to : Nat := 143
def f_strings_TrimRight : Nat := 144
def f_strings_LastIndexByte : Nat := 145
def f_slices_BinarySearch_string_string : Nat := 146
def f_strings_HasPrefix : Nat := 152
def f_pat_dir : Nat := 167
def f_pat_one : Nat := 168
def f_slices_ContainsFunc_int_int : Nat := 169
def f_pat_May_1 : Nat := 170
def f_prim_Unlink : Nat := 185
def f_internal_bytealg_IndexByteString : Nat := 187
def f_strings_IndexAny : Nat := 188
def f_slices_Collect_string : Nat := 189
def f_walk_walker_name : Nat := 190
def f_internal_stringslite_Index : Nat := 191
def f_strings_splitSeq : Nat := 192
def f_strings_Builder_copyCheck : Nat := 193
def f_strings_Builder_grow : Nat := 194
def f_moves_found : Nat := 195
def f_prim_Rename : Nat := 196
def f_moves_call_deep : Nat := 197
def f_prim_Copy : Nat := 198
def f_prim_MakeLink : Nat := 199
def f_strings_trimRightByte : Nat := 200
def f_strings_makeASCIISet : Nat := 201
def f_strings_trimRightASCII : Nat := 202
def f_strings_trimRightUnicode : Nat := 203
def f_internal_bytealg_LastIndexByteString : Nat := 204
def f_cmp_Less_string : Nat := 205
def f_slices_isNaN_string : Nat := 206
def f_internal_stringslite_HasPrefix : Nat := 209
def f_math_bits_Len : Nat := 214
def f_slices_IndexFunc_int_int : Nat := 217
def f_sym_ref : Nat := 219
def f_prim_put : Nat := 231
def f_prim_remove : Nat := 232
def f_prim_at : Nat := 234
def f_prim_Unlink_1 : Nat := 236
def f_strings_IndexRune : Nat := 238
def f_strings_shouldUseASCIISet : Nat := 239
def f_strings_asciiSet_contains : Nat := 240
def f_slices_AppendSeq_string_string : Nat := 241
def f_walk_walker_below : Nat := 242
def f_walk_walker_follow : Nat := 243
def f_internal_bytealg_IndexString : Nat := 244
def f_internal_bytealg_Cutover : Nat := 245
def f_internal_bytealg_IndexRabinKarp_string : Nat := 246
def f_strings_splitSeq_1 : Nat := 247
def f_unicode_utf8_DecodeRuneInString : Nat := 248
def f_internal_abi_NoEscape : Nat := 249
def f_internal_bytealg_MakeNoZero : Nat := 250
def f_prim_Rename_1 : Nat := 251
def f_slices_Equal_string_string : Nat := 252
def f_path_Under : Nat := 253
def f_prim_Copy_1 : Nat := 254
def f_unicode_utf8_DecodeLastRuneInString : Nat := 255
def f_strings_ContainsRune : Nat := 256
def f_cmp_isNaN_string : Nat := 257
def f_math_bits_Len32 : Nat := 269
def f_math_bits_Len64 : Nat := 270
def f_slices_Clone_api_Fact_api_Fact : Nat := 276
def f_slices_Clone_int_int : Nat := 277
def f_store_change : Nat := 278
def f_store_dir : Nat := 280
def f_prim_put_1 : Nat := 288
def f_prim_remove_1 : Nat := 289
def f_prim_taken : Nat := 290
def f_unicode_utf8_ValidRune : Nat := 291
def f_internal_bytealg_hashStr_string : Nat := 292
def f_unicode_utf8_decodeRuneInStringSlow : Nat := 293
def f_unicode_utf8_RuneStart : Nat := 294
def f_slices_nextPowerOfTwo : Nat := 297
def f_slices_xorshift_Next : Nat := 298
def f_store_own : Nat := 305
def f_slices_Sorted_int : Nat := 306
def f_slices_Values_int_int : Nat := 307
def f_sym_Same : Nat := 314
def f_sym_absent : Nat := 315
def f_slices_Collect_int : Nat := 324
def f_slices_Sort_int_int : Nat := 325
def f_slices_Values_int_int_1 : Nat := 326
def f_slices_EqualFunc_api_Term_api_Term_api_Term_api_Term : Nat := 331
def f_slices_AppendSeq_int_int : Nat := 332
def f_slices_pdqsortOrdered_int : Nat := 333
def f_slices_insertionSortOrdered_int : Nat := 336
def f_slices_heapSortOrdered_int : Nat := 337
def f_slices_breakPatternsOrdered_int : Nat := 338
def f_slices_choosePivotOrdered_int : Nat := 339
def f_slices_reverseRangeOrdered_int : Nat := 340
def f_slices_partialInsertionSortOrdered_int : Nat := 341
def f_cmp_Less_int : Nat := 342
def f_slices_partitionEqualOrdered_int : Nat := 343
def f_slices_partitionOrdered_int : Nat := 344
def f_slices_siftDownOrdered_int : Nat := 345
def f_slices_medianAdjacentOrdered_int : Nat := 346
def f_slices_medianOrdered_int : Nat := 347
def f_cmp_isNaN_int : Nat := 348
def f_slices_order2Ordered_int : Nat := 349
def f_internal_abi_Type_Kind : Nat := 363
def f_ftree_Tree_Copy : Nat := 367
def f_ftree_Tree_Del : Nat := 368
def f_ftree_Tree_Empty : Nat := 369
def f_ftree_Tree_Move : Nat := 370
def f_ftree_Tree_Put : Nat := 371
def f_ftree_Tree_Text : Nat := 372
def f_ftree_Tree_apart : Nat := 373
def f_ftree_Tree_set : Nat := 374
def f_ftree_change : Nat := 375
def f_ftree_Tree_Del_1 : Nat := 376
def f_slices_Delete_string_string : Nat := 377
def f_slices_Delete_api_Node_api_Node : Nat := 378
def f_slices_Clone_api_Node_api_Node : Nat := 379
def f_ftree_Tree_open : Nat := 380
def f_ftree_begins : Nat := 381
def f_ftree_Tree_set_1 : Nat := 382
def f_slices_Insert_string_string : Nat := 383
def f_slices_Insert_api_Node_api_Node : Nat := 384
def f_slices_overlaps_string : Nat := 385
def f_slices_rotateRight_string : Nat := 386
def f_slices_overlaps_api_Node : Nat := 387
def f_slices_rotateRight_api_Node : Nat := 388
def f_slices_rotateLeft_string : Nat := 389
def f_slices_rotateLeft_api_Node : Nat := 390
def f_slices_Reverse_string_string : Nat := 391
def f_slices_Reverse_api_Node_api_Node : Nat := 392
def f_sym_Tree_Copy : Nat := 396
def f_sym_Tree_Del : Nat := 397
def f_sym_Tree_Empty : Nat := 398
def f_sym_Tree_Kind : Nat := 399
def f_sym_Tree_Move : Nat := 400
def f_sym_Tree_Put : Nat := 401
def f_sym_Tree_Text : Nat := 402
def f_sym_Tree_apart : Nat := 403
def f_sym_Tree_set : Nat := 404
def f_sym_Tree_at : Nat := 405
def f_sym_Tree_kind : Nat := 406
def f_sym_base : Nat := 407
def f_sym_Tree_bare : Nat := 408
def f_sym_Tree_open : Nat := 409
def f_sym_made : Nat := 410
def f_sym_with : Nat := 411
def f_sym_Tree_kid : Nat := 412
def f_sym_Tree_bare_1 : Nat := 413
def f_slices_Contains_string_string : Nat := 414
def f_sym_Tree_beside : Nat := 415
def f_slices_Clone_api_Term_api_Term : Nat := 416
def f_slices_Delete_api_Term_api_Term : Nat := 417
def f_slices_Insert_api_Term_api_Term : Nat := 418
def f_store_Ask : Nat := 419
def f_slices_Index_string_string : Nat := 420
def f_slices_Contains_int_int : Nat := 421
def f_slices_overlaps_api_Term : Nat := 422
def f_slices_rotateRight_api_Term : Nat := 423
def f_store_Ask_1 : Nat := 424
def f_store_Ask_2 : Nat := 425
def f_slices_Insert_int_int : Nat := 426
def f_slices_Index_int_int : Nat := 427
def f_slices_rotateLeft_api_Term : Nat := 428
def f_slices_overlaps_int : Nat := 429
def f_slices_rotateRight_int : Nat := 430
def f_slices_Reverse_api_Term_api_Term : Nat := 431
def f_slices_rotateLeft_int : Nat := 432
def f_slices_Reverse_int_int : Nat := 433
def c_touchstonelaw13_MovesNames : Fun := { cin := [], cout := [.id], ntmps := 235, keep := false, res := [(0, none)], body :=
 (.seq (.reg [⟨(some 0), .mv (.c (.b false)), none⟩])
 (.seq (.seq (.reg [⟨(some 21), .call f_touchstonelaw13_works [], none⟩,
 ⟨(some 22), .un .not (.t 21), none⟩,
 ⟨(some 23), .mv (.t 22), none⟩,
 ⟨(some 24), .pick (.t 23) (.c (.b true)) (.c (.b false)), none⟩,
 ⟨(some 25), .mv (.t 24), none⟩,
 ⟨(some 26), .pick (.t 25) (.c (.b true)) (.c (.b false)), none⟩,
 ⟨(some 27), .mv (.t 26), none⟩,
 ⟨(some 28), .pick (.t 27) (.c (.b true)) (.c (.b false)), none⟩,
 ⟨(some 29), .mv (.t 28), none⟩,
 ⟨(some 30), .pick (.t 29) (.c (.b true)) (.c (.b false)), none⟩])
 (.cond (.t 30)
 (.seq (.reg [⟨(some 0), .mv (.c (.b false)), none⟩])
 .ret)
 .skip))
 (.seq (.reg [⟨(some 32), .bsl 1 [(.c (.s [109, 118])), (.c (.s [97])), (.c (.s [98]))], none⟩,
 ⟨(some 33), .call f_moves_Run [(.c .ni), (.t 32)], none⟩,
 ⟨(some 31), .mv (.t 33), none⟩,
 ⟨(some 34), .ext (.t 31) 0, none⟩,
 ⟨(some 35), .ext (.t 31) 1, none⟩,
 ⟨(some 36), .ext (.t 31) 2, none⟩,
 ⟨(some 37), .ext (.t 31) 3, none⟩,
 ⟨(some 1), .mv (.t 34), none⟩,
 ⟨(some 2), .mv (.t 35), none⟩,
 ⟨(some 3), .mv (.t 36), none⟩,
 ⟨(some 4), .mv (.t 37), none⟩])
 (.seq (.reg [⟨(some 39), .call f_touchstonelaw13_dir [(.c .nsl), (.c .nsl)], none⟩,
 ⟨(some 40), .call f_ftree_New [(.t 39)], none⟩,
 ⟨(some 38), .mv (.t 40), none⟩,
 ⟨(some 41), .ext (.t 38) 0, none⟩,
 ⟨(some 42), .ext (.t 38) 1, none⟩,
 ⟨(some 5), .mv (.t 41), none⟩,
 ⟨(some 6), .mv (.t 42), none⟩])
 (.seq (.reg [⟨(some 44), .mv (.t 5), none⟩,
 ⟨(some 45), .mki 29 (.t 44), none⟩,
 ⟨(some 46), .call f_moves_Run [(.t 45), (.c .nsl)], none⟩,
 ⟨(some 43), .mv (.t 46), none⟩,
 ⟨(some 47), .ext (.t 43) 0, none⟩,
 ⟨(some 48), .ext (.t 43) 1, none⟩,
 ⟨(some 49), .ext (.t 43) 2, none⟩,
 ⟨(some 50), .ext (.t 43) 3, none⟩,
 ⟨(some 7), .mv (.t 47), none⟩,
 ⟨(some 8), .mv (.t 48), none⟩,
 ⟨(some 9), .mv (.t 49), none⟩,
 ⟨(some 10), .mv (.t 50), none⟩])
 (.seq (.reg [⟨(some 52), .mv (.t 5), none⟩,
 ⟨(some 53), .mki 29 (.t 52), none⟩,
 ⟨(some 54), .bsl 1 [(.c (.s [114, 109])), (.c (.s [97]))], none⟩,
 ⟨(some 55), .call f_moves_Run [(.t 53), (.t 54)], none⟩,
 ⟨(some 51), .mv (.t 55), none⟩,
 ⟨(some 56), .ext (.t 51) 0, none⟩,
 ⟨(some 57), .ext (.t 51) 1, none⟩,
 ⟨(some 58), .ext (.t 51) 2, none⟩,
 ⟨(some 59), .ext (.t 51) 3, none⟩,
 ⟨(some 11), .mv (.t 56), none⟩,
 ⟨(some 12), .mv (.t 57), none⟩,
 ⟨(some 13), .mv (.t 58), none⟩,
 ⟨(some 14), .mv (.t 59), none⟩])
 (.seq (.seq (.reg [⟨(some 60), .mv (.t 6), none⟩,
 ⟨(some 61), .bin .neq (.t 60) (.c (.i .i64 0)), none⟩,
 ⟨(some 62), .mv (.t 61), none⟩,
 ⟨(some 63), .mv (.t 4), (some (62, false))⟩,
 ⟨(some 64), .pick (.t 62) (.c (.b true)) (.t 63), none⟩,
 ⟨(some 65), .mv (.t 64), none⟩,
 ⟨(some 66), .mv (.t 10), (some (65, false))⟩,
 ⟨(some 67), .pick (.t 65) (.c (.b true)) (.t 66), none⟩,
 ⟨(some 68), .mv (.t 67), none⟩,
 ⟨(some 69), .mv (.t 14), (some (68, false))⟩,
 ⟨(some 70), .pick (.t 68) (.c (.b true)) (.t 69), none⟩,
 ⟨(some 71), .mv (.t 70), none⟩,
 ⟨(some 72), .call f_moves_Why [(.c (.i .i64 61))], (some (71, false))⟩,
 ⟨(some 73), .bin .neq (.t 72) (.c (.s [116, 111, 111, 32, 109, 97, 110, 121, 32, 108, 105, 110, 107, 115])), (some (71, false))⟩,
 ⟨(some 74), .pick (.t 71) (.c (.b true)) (.t 73), none⟩,
 ⟨(some 75), .mv (.t 74), none⟩,
 ⟨(some 76), .call f_moves_Why [(.c (.i .i64 40))], (some (75, false))⟩,
 ⟨(some 77), .bin .neq (.t 76) (.c (.s [116, 111, 111, 32, 108, 97, 114, 103, 101])), (some (75, false))⟩,
 ⟨(some 78), .pick (.t 75) (.c (.b true)) (.t 77), none⟩,
 ⟨(some 79), .mv (.t 78), none⟩,
 ⟨(some 80), .call f_moves_Why [(.c (.i .i64 4))], (some (79, false))⟩,
 ⟨(some 81), .bin .neq (.t 80) (.c (.s [98, 97, 100, 32, 110, 97, 109, 101])), (some (79, false))⟩,
 ⟨(some 82), .pick (.t 79) (.c (.b true)) (.t 81), none⟩,
 ⟨(some 83), .mv (.t 82), none⟩,
 ⟨(some 84), .call f_moves_Why [(.c (.i .i64 6))], (some (83, false))⟩,
 ⟨(some 85), .bin .neq (.t 84) (.c (.s [116, 104, 101, 114, 101, 32, 97, 108, 114, 101, 97, 100, 121])), (some (83, false))⟩,
 ⟨(some 86), .pick (.t 83) (.c (.b true)) (.t 85), none⟩,
 ⟨(some 87), .mv (.t 86), none⟩,
 ⟨(some 88), .call f_moves_Why [(.c (.i .i64 57))], (some (87, false))⟩,
 ⟨(some 89), .bin .neq (.t 88) (.c (.s [110, 111, 116, 32, 101, 109, 112, 116, 121])), (some (87, false))⟩,
 ⟨(some 90), .pick (.t 87) (.c (.b true)) (.t 89), none⟩,
 ⟨(some 91), .mv (.t 90), none⟩,
 ⟨(some 92), .call f_moves_Why [(.c (.i .i64 0))], (some (91, false))⟩,
 ⟨(some 93), .bin .neq (.t 92) (.c (.s [101, 114, 114, 111, 114])), (some (91, false))⟩,
 ⟨(some 94), .pick (.t 91) (.c (.b true)) (.t 93), none⟩,
 ⟨(some 95), .mv (.t 94), none⟩,
 ⟨(some 96), .call f_moves_Why [(.c (.i .i64 62))], (some (95, false))⟩,
 ⟨(some 97), .bin .neq (.t 96) (.c (.s [101, 114, 114, 111, 114])), (some (95, false))⟩,
 ⟨(some 98), .pick (.t 95) (.c (.b true)) (.t 97), none⟩])
 (.cond (.t 98)
 (.seq (.reg [⟨(some 0), .mv (.c (.b false)), none⟩])
 .ret)
 .skip))
 (.seq (.reg [⟨(some 99), .bsl 1 [(.c (.s [97])), (.c (.s [115]))], none⟩,
 ⟨(some 100), .call f_touchstonelaw13_file [(.c (.s [121]))], none⟩,
 ⟨(some 101), .call f_touchstonelaw13_dir [(.c .nsl), (.c .nsl)], none⟩,
 ⟨(some 102), .bsl 4 [(.t 100), (.t 101)], none⟩,
 ⟨(some 103), .call f_touchstonelaw13_dir [(.t 99), (.t 102)], none⟩,
 ⟨(some 15), .alloc 25 [(.i .u8 0), (.s []), .nsl, .nsl], none⟩,
 ⟨none, .st 4 (.t 15) (.t 103), none⟩])
 (.seq (.regD [⟨(some 104), .bsl 1 [(.c (.s [97])), (.c (.s [100])), (.c (.s [101])), (.c (.s [107])), (.c (.s [108])), (.c (.s [111]))], none⟩,
 ⟨(some 105), .callQ false f_touchstonelaw13_file [(.c (.s [120]))], none⟩,
 ⟨(some 106), .ld true 4 (.t 15), none⟩,
 ⟨(some 107), .callQ false f_touchstonelaw13_dir [(.c .nsl), (.c .nsl)], none⟩,
 ⟨(some 108), .callQ false f_touchstonelaw13_link [(.c (.s [97]))], none⟩,
 ⟨(some 109), .callQ false f_touchstonelaw13_link [(.c (.s [100]))], none⟩,
 ⟨(some 110), .callQ false f_touchstonelaw13_link [(.c (.s [111]))], none⟩,
 ⟨(some 111), .bsl 4 [(.t 105), (.t 106), (.t 107), (.t 108), (.t 109), (.t 110)], none⟩,
 ⟨(some 112), .callQ false f_touchstonelaw13_dir [(.t 104), (.t 111)], none⟩,
 ⟨none, .mv (.c (.tup [])), none⟩,
 ⟨(some 16), .adp 25 [(.i .u8 0), (.s []), .nsl, .nsl] 4 (.t 112), none⟩] [(2, (1, 7))])
 (.seq (.seq (.reg [⟨(some 113), .bsl 1 [(.c (.s [109, 118])), (.c (.s [97])), (.c (.s [111]))], none⟩,
 ⟨(some 114), .build [(.s []), .nsl] [(0, 1, (.c (.s [109, 118, 58, 32, 111, 58, 32, 116, 111, 111, 32, 109, 97, 110, 121, 32, 108, 105, 110, 107, 115, 10]))), (1, 1, (.t 113))], none⟩,
 ⟨(some 115), .bsl 1 [(.c (.s [109, 118])), (.c (.s [97])), (.c (.s []))], none⟩,
 ⟨(some 116), .build [(.s []), .nsl] [(0, 1, (.c (.s [109, 118, 58, 32, 58, 32, 98, 97, 100, 32, 110, 97, 109, 101, 10]))), (1, 1, (.t 115))], none⟩,
 ⟨(some 117), .call f_touchstonelaw13_many [(.c (.i .i64 257))], none⟩,
 ⟨(some 118), .bin .add (.c (.s [109, 118, 58, 32])) (.t 117), none⟩,
 ⟨(some 119), .bin .add (.t 118) (.c (.s [58, 32, 116, 111, 111, 32, 108, 97, 114, 103, 101, 10])), none⟩,
 ⟨(some 120), .call f_touchstonelaw13_many [(.c (.i .i64 257))], none⟩,
 ⟨(some 121), .bsl 1 [(.c (.s [109, 118])), (.c (.s [97])), (.t 120)], none⟩,
 ⟨(some 122), .build [(.s []), .nsl] [(0, 1, (.t 119)), (1, 1, (.t 121))], none⟩,
 ⟨(some 123), .bsl 1 [(.c (.s [109, 118])), (.c (.s [97])), (.c (.s [113, 47, 114]))], none⟩,
 ⟨(some 124), .build [(.s []), .nsl] [(0, 1, (.c (.s [109, 118, 58, 32, 113, 47, 114, 58, 32, 110, 111, 116, 32, 116, 104, 101, 114, 101, 10]))), (1, 1, (.t 123))], none⟩,
 ⟨(some 125), .bsl 1 [(.c (.s [109, 118])), (.c (.s [100])), (.c (.s [97, 47, 114]))], none⟩,
 ⟨(some 126), .build [(.s []), .nsl] [(0, 1, (.c (.s [109, 118, 58, 32, 97, 47, 114, 58, 32, 119, 114, 111, 110, 103, 32, 107, 105, 110, 100, 10]))), (1, 1, (.t 125))], none⟩,
 ⟨(some 127), .bsl 1 [(.c (.s [109, 118])), (.c (.s [100])), (.c (.s [101])), (.c (.s [97]))], none⟩,
 ⟨(some 128), .build [(.s []), .nsl] [(0, 1, (.c (.s [109, 118, 58, 32, 97, 58, 32, 119, 114, 111, 110, 103, 32, 107, 105, 110, 100, 10]))), (1, 1, (.t 127))], none⟩,
 ⟨(some 129), .bsl 1 [(.c (.s [109, 118])), (.c (.s [100])), (.c (.s [113, 47]))], none⟩,
 ⟨(some 130), .build [(.s []), .nsl] [(0, 1, (.c (.s [109, 118, 58, 32, 113, 47, 58, 32, 110, 111, 116, 32, 116, 104, 101, 114, 101, 10]))), (1, 1, (.t 129))], none⟩,
 ⟨(some 131), .bsl 1 [(.c (.s [99, 112])), (.c (.s [97])), (.c (.s [113, 47, 46]))], none⟩,
 ⟨(some 132), .build [(.s []), .nsl] [(0, 1, (.c (.s [99, 112, 58, 32, 113, 47, 46, 58, 32, 110, 111, 116, 32, 116, 104, 101, 114, 101, 10]))), (1, 1, (.t 131))], none⟩,
 ⟨(some 133), .bsl 1 [(.c (.s [108, 110])), (.c (.s [45, 115])), (.c (.s [97])), (.c (.s [113, 47]))], none⟩,
 ⟨(some 134), .build [(.s []), .nsl] [(0, 1, (.c (.s [108, 110, 58, 32, 113, 47, 58, 32, 110, 111, 116, 32, 116, 104, 101, 114, 101, 10]))), (1, 1, (.t 133))], none⟩,
 ⟨(some 135), .bsl 1 [(.c (.s [109, 118])), (.c (.s [113, 47, 46])), (.c (.s [100]))], none⟩,
 ⟨(some 136), .build [(.s []), .nsl] [(0, 1, (.c (.s [109, 118, 58, 32, 113, 47, 46, 58, 32, 110, 111, 116, 32, 116, 104, 101, 114, 101, 10]))), (1, 1, (.t 135))], none⟩,
 ⟨(some 137), .bsl 1 [(.c (.s [109, 118])), (.c (.s [113])), (.c (.s [100]))], none⟩,
 ⟨(some 138), .build [(.s []), .nsl] [(0, 1, (.c (.s [109, 118, 58, 32, 113, 58, 32, 110, 111, 116, 32, 116, 104, 101, 114, 101, 10]))), (1, 1, (.t 137))], none⟩,
 ⟨(some 139), .bsl 1 [(.c (.s [109, 118])), (.c (.s [])), (.c (.s [113])), (.c (.s [100]))], none⟩,
 ⟨(some 140), .build [(.s []), .nsl] [(0, 1, (.c (.s [109, 118, 58, 32, 58, 32, 98, 97, 100, 32, 110, 97, 109, 101, 10, 109, 118, 58, 32, 113, 58, 32, 110, 111, 116, 32, 116, 104, 101, 114, 101, 10]))), (1, 1, (.t 139))], none⟩,
 ⟨(some 141), .bsl 1 [(.c (.s [109, 118])), (.c (.s [47])), (.c (.s [100]))], none⟩,
 ⟨(some 142), .build [(.s []), .nsl] [(0, 1, (.c (.s [109, 118, 58, 32, 47, 58, 32, 98, 97, 100, 32, 110, 97, 109, 101, 10]))), (1, 1, (.t 141))], none⟩,
 ⟨(some 143), .bsl 1 [(.c (.s [109, 118])), (.c (.s [100, 47, 46, 46])), (.c (.s [101]))], none⟩,
 ⟨(some 144), .build [(.s []), .nsl] [(0, 1, (.c (.s [109, 118, 58, 32, 100, 47, 46, 46, 58, 32, 98, 97, 100, 32, 110, 97, 109, 101, 10]))), (1, 1, (.t 143))], none⟩,
 ⟨(some 145), .bsl 1 [(.c (.s [109, 118])), (.c (.s [97])), (.c (.s [97]))], none⟩,
 ⟨(some 146), .build [(.s []), .nsl] [(0, 1, (.c (.s [109, 118, 58, 32, 97, 58, 32, 116, 104, 101, 114, 101, 32, 97, 108, 114, 101, 97, 100, 121, 10]))), (1, 1, (.t 145))], none⟩,
 ⟨(some 147), .bsl 1 [(.c (.s [109, 118])), (.c (.s [101])), (.c (.s [100, 47, 97]))], none⟩,
 ⟨(some 148), .build [(.s []), .nsl] [(0, 1, (.c (.s [109, 118, 58, 32, 101, 58, 32, 119, 114, 111, 110, 103, 32, 107, 105, 110, 100, 10]))), (1, 1, (.t 147))], none⟩,
 ⟨(some 149), .bsl 1 [(.c (.s [109, 118])), (.c (.s [100])), (.c (.s [100, 47, 115]))], none⟩,
 ⟨(some 150), .build [(.s []), .nsl] [(0, 1, (.c (.s [109, 118, 58, 32, 100, 58, 32, 105, 110, 116, 111, 32, 105, 116, 115, 101, 108, 102, 10]))), (1, 1, (.t 149))], none⟩,
 ⟨(some 151), .bsl 1 [(.c (.s [109, 118])), (.c (.s [100])), (.c (.s [108]))], none⟩,
 ⟨(some 152), .build [(.s []), .nsl] [(0, 1, (.c (.s [109, 118, 58, 32, 100, 58, 32, 105, 110, 116, 111, 32, 105, 116, 115, 101, 108, 102, 10]))), (1, 1, (.t 151))], none⟩,
 ⟨(some 153), .bsl 1 [(.c (.s [99, 112])), (.c (.s [100])), (.c (.s [101]))], none⟩,
 ⟨(some 154), .build [(.s []), .nsl] [(0, 1, (.c (.s [99, 112, 58, 32, 100, 58, 32, 119, 114, 111, 110, 103, 32, 107, 105, 110, 100, 10]))), (1, 1, (.t 153))], none⟩,
 ⟨(some 155), .bsl 1 [(.c (.s [99, 112])), (.c (.s [108])), (.c (.s [101]))], none⟩,
 ⟨(some 156), .build [(.s []), .nsl] [(0, 1, (.c (.s [99, 112, 58, 32, 108, 58, 32, 119, 114, 111, 110, 103, 32, 107, 105, 110, 100, 10]))), (1, 1, (.t 155))], none⟩,
 ⟨(some 157), .bsl 1 [(.c (.s [99, 112])), (.c (.s [111])), (.c (.s [101]))], none⟩,
 ⟨(some 158), .build [(.s []), .nsl] [(0, 1, (.c (.s [99, 112, 58, 32, 111, 58, 32, 116, 111, 111, 32, 109, 97, 110, 121, 32, 108, 105, 110, 107, 115, 10]))), (1, 1, (.t 157))], none⟩,
 ⟨(some 159), .bsl 1 [(.c (.s [99, 112])), (.c (.s [45, 82])), (.c (.s [100])), (.c (.s [100]))], none⟩,
 ⟨(some 160), .build [(.s []), .nsl] [(0, 1, (.c (.s [99, 112, 58, 32, 100, 58, 32, 105, 110, 116, 111, 32, 105, 116, 115, 101, 108, 102, 10]))), (1, 1, (.t 159))], none⟩,
 ⟨(some 161), .bsl 1 [(.c (.s [99, 112])), (.c (.s [107])), (.c (.s [97]))], none⟩,
 ⟨(some 162), .build [(.s []), .nsl] [(0, 1, (.c (.s [99, 112, 58, 32, 97, 58, 32, 116, 104, 101, 114, 101, 32, 97, 108, 114, 101, 97, 100, 121, 10]))), (1, 1, (.t 161))], none⟩,
 ⟨(some 163), .bsl 1 [(.c (.s [108, 110])), (.c (.s [45, 115])), (.c (.s [97])), (.c (.s [100]))], none⟩,
 ⟨(some 164), .build [(.s []), .nsl] [(0, 1, (.c (.s [108, 110, 58, 32, 97, 58, 32, 116, 104, 101, 114, 101, 32, 97, 108, 114, 101, 97, 100, 121, 10]))), (1, 1, (.t 163))], none⟩,
 ⟨(some 165), .bsl 1 [(.c (.s [108, 110])), (.c (.s [45, 115])), (.c (.s [])), (.c (.s [113]))], none⟩,
 ⟨(some 166), .build [(.s []), .nsl] [(0, 1, (.c (.s [108, 110, 58, 32, 58, 32, 98, 97, 100, 32, 110, 97, 109, 101, 10]))), (1, 1, (.t 165))], none⟩,
 ⟨(some 167), .call f_touchstonelaw13_many [(.c (.i .i64 257))], none⟩,
 ⟨(some 168), .bin .add (.c (.s [108, 110, 58, 32])) (.t 167), none⟩,
 ⟨(some 169), .bin .add (.t 168) (.c (.s [58, 32, 98, 97, 100, 32, 110, 97, 109, 101, 10])), none⟩,
 ⟨(some 170), .call f_touchstonelaw13_many [(.c (.i .i64 257))], none⟩,
 ⟨(some 171), .bsl 1 [(.c (.s [108, 110])), (.c (.s [45, 115])), (.t 170), (.c (.s [113]))], none⟩,
 ⟨(some 172), .build [(.s []), .nsl] [(0, 1, (.t 169)), (1, 1, (.t 171))], none⟩,
 ⟨(some 173), .bsl 1 [(.c (.s [108, 110])), (.c (.s [45, 115, 102])), (.c (.s [115])), (.c (.s [100]))], none⟩,
 ⟨(some 174), .build [(.s []), .nsl] [(0, 1, (.c (.s [108, 110, 58, 32, 115, 58, 32, 119, 114, 111, 110, 103, 32, 107, 105, 110, 100, 10]))), (1, 1, (.t 173))], none⟩,
 ⟨(some 175), .bsl 1 [(.c (.s [108, 110])), (.c (.s [45, 115])), (.c (.s [113, 47, 46, 46])), (.c (.s [100]))], none⟩,
 ⟨(some 176), .build [(.s []), .nsl] [(0, 1, (.c (.s [108, 110, 58, 32, 113, 47, 46, 46, 58, 32, 98, 97, 100, 32, 110, 97, 109, 101, 10]))), (1, 1, (.t 175))], none⟩,
 ⟨(some 177), .bsl 1 [(.c (.s [108, 110])), (.c (.s [45, 115])), (.c (.s [97])), (.c (.s [107]))], none⟩,
 ⟨(some 178), .build [(.s []), .nsl] [(0, 1, (.c (.s [108, 110, 58, 32, 97, 58, 32, 116, 104, 101, 114, 101, 32, 97, 108, 114, 101, 97, 100, 121, 10]))), (1, 1, (.t 177))], none⟩,
 ⟨(some 179), .bsl 2 [(.t 114), (.t 116), (.t 122), (.t 124), (.t 126), (.t 128), (.t 130), (.t 132), (.t 134), (.t 136), (.t 138), (.t 140), (.t 142), (.t 144), (.t 146), (.t 148), (.t 150), (.t 152), (.t 154), (.t 156), (.t 158), (.t 160), (.t 162), (.t 164), (.t 166), (.t 172), (.t 174), (.t 176), (.t 178)], none⟩,
 ⟨(some 180), .len 1 (.t 179), none⟩,
 ⟨(some 181), .mv (.c (.i .i64 0)), none⟩])
 (.blk 0 (.loop (.seq (.reg [⟨(some 182), .bin .lss (.t 181) (.t 180), none⟩])
 (.seq (.cond (.t 182)
 .skip
 (.exit 0))
 (.seq (.blk 1 (.seq (.reg [⟨(some 183), .ia 2 (.t 179) (.t 181), none⟩,
 ⟨(some 184), .ld true 2 (.t 183), none⟩,
 ⟨(some 18), .alloc 55 [(.s []), .nsl], none⟩,
 ⟨none, .st 2 (.t 18) (.t 184), none⟩])
 (.seq (.reg [⟨(some 185), .fa 1 (.t 18), none⟩,
 ⟨(some 186), .ld false 1 (.t 185), none⟩,
 ⟨(some 187), .ia 1 (.t 186) (.c (.i .i64 0)), none⟩,
 ⟨(some 188), .ld false 1 (.t 187), none⟩,
 ⟨(some 189), .bin .eql (.t 188) (.c (.s [99, 112])), none⟩,
 ⟨(some 190), .mv (.t 189), none⟩,
 ⟨(some 191), .fa 1 (.t 18), (some (190, true))⟩,
 ⟨(some 192), .ld false 1 (.t 191), (some (190, true))⟩,
 ⟨(some 193), .ia 1 (.t 192) (.c (.i .i64 1)), (some (190, true))⟩,
 ⟨(some 194), .ld false 1 (.t 193), (some (190, true))⟩,
 ⟨(some 195), .bin .eql (.t 194) (.c (.s [107])), (some (190, true))⟩,
 ⟨(some 196), .pick (.t 190) (.t 195) (.c (.b false)), none⟩])
 (.cond (.t 196)
 (.seq (.reg [⟨(some 197), .ld true 4 (.t 16), none⟩,
 ⟨(some 198), .ld true 4 (.t 16), none⟩,
 ⟨(some 199), .fa 1 (.t 18), none⟩,
 ⟨(some 200), .ld false 1 (.t 199), none⟩,
 ⟨(some 201), .call f_touchstonelaw13_runs [(.t 197), (.c (.i .i64 1)), (.c (.s [99, 112, 58, 32, 107, 58, 32, 116, 104, 101, 114, 101, 32, 97, 108, 114, 101, 97, 100, 121, 10])), (.t 198), (.t 200)], none⟩,
 ⟨(some 202), .un .not (.t 201), none⟩])
 (.cond (.t 202)
 (.seq (.reg [⟨(some 0), .mv (.c (.b false)), none⟩])
 .ret)
 .skip))
 (.seq (.reg [⟨(some 203), .ld true 4 (.t 16), none⟩,
 ⟨(some 204), .fa 0 (.t 18), none⟩,
 ⟨(some 205), .ld false 1 (.t 204), none⟩,
 ⟨(some 206), .ld true 4 (.t 16), none⟩,
 ⟨(some 207), .fa 1 (.t 18), none⟩,
 ⟨(some 208), .ld false 1 (.t 207), none⟩,
 ⟨(some 209), .call f_touchstonelaw13_runs [(.t 203), (.c (.i .i64 1)), (.t 205), (.t 206), (.t 208)], none⟩,
 ⟨(some 210), .un .not (.t 209), none⟩])
 (.cond (.t 210)
 (.seq (.reg [⟨(some 0), .mv (.c (.b false)), none⟩])
 .ret)
 .skip))))))
 (.reg [⟨(some 211), .bin .add (.t 181) (.c (.i .i64 1)), none⟩,
 ⟨(some 181), .mv (.t 211), none⟩])))))))
 (.seq (.seq (.reg [⟨(some 212), .bsl 1 [(.c (.s [109, 118]))], none⟩,
 ⟨(some 213), .bsl 1 [(.c (.s [109, 118])), (.c (.s [45, 114])), (.c (.s [97])), (.c (.s [98]))], none⟩,
 ⟨(some 214), .bsl 1 [(.c (.s [99, 112])), (.c (.s [45, 120])), (.c (.s [97])), (.c (.s [98]))], none⟩,
 ⟨(some 215), .bsl 1 [(.c (.s [108, 110])), (.c (.s [45, 102])), (.c (.s [97])), (.c (.s [98]))], none⟩,
 ⟨(some 216), .bsl 1 [(.c (.s [108, 110])), (.c (.s [45, 115])), (.c (.s [97]))], none⟩,
 ⟨(some 217), .bsl 1 [(.c (.s [109, 118])), (.c (.s [45, 45])), (.c (.s [97]))], none⟩,
 ⟨(some 218), .bsl 1 [(.t 212), (.t 213), (.t 214), (.t 215), (.t 216), (.t 217)], none⟩,
 ⟨(some 219), .len 1 (.t 218), none⟩,
 ⟨(some 220), .mv (.c (.i .i64 0)), none⟩])
 (.blk 2 (.loop (.seq (.reg [⟨(some 221), .bin .lss (.t 220) (.t 219), none⟩])
 (.seq (.cond (.t 221)
 .skip
 (.exit 2))
 (.seq (.blk 3 (.seq (.reg [⟨(some 222), .ia 1 (.t 218) (.t 220), none⟩,
 ⟨(some 223), .ld false 1 (.t 222), none⟩,
 ⟨(some 20), .mv (.t 223), none⟩])
 (.seq (.regD [⟨(some 224), .ld true 4 (.t 16), none⟩,
 ⟨(some 225), .mv (.t 20), none⟩,
 ⟨(some 226), .ia 1 (.t 225) (.c (.i .i64 0)), none⟩,
 ⟨(some 227), .ld false 1 (.t 226), none⟩,
 ⟨(some 228), .bin .add (.t 227) (.c (.s [58, 32, 117, 115, 97, 103, 101, 10])), none⟩,
 ⟨(some 229), .ld true 4 (.t 16), none⟩,
 ⟨(some 230), .mv (.t 20), none⟩,
 ⟨(some 231), .call f_touchstonelaw13_runs [(.t 224), (.c (.i .i64 2)), (.t 228), (.t 229), (.t 230)], none⟩,
 ⟨(some 232), .un .not (.t 231), none⟩] [])
 (.cond (.t 232)
 (.seq (.reg [⟨(some 0), .mv (.c (.b false)), none⟩])
 .ret)
 .skip))))
 (.reg [⟨(some 233), .bin .add (.t 220) (.c (.i .i64 1)), none⟩,
 ⟨(some 220), .mv (.t 233), none⟩])))))))
 (.seq (.reg [⟨(some 234), .call f_touchstonelaw13_done [], none⟩,
 ⟨(some 0), .mv (.t 234), none⟩])
 .ret)))))))))))) }
def c_ftree_New : Fun := { cin := [(.agg [.id, .id, (.sl 1 .id), (.sl 4 (.agg [.id, .id, (.sl 1 .id), (.sl 4 (.agg [.id, .id, (.sl 1 .id), (.sl 4 .id)]))]))])], cout := [.id, .id], ntmps := 11, keep := false, res := [(2, none), (3, none)], body :=
 (.seq (.reg [⟨(some 1), .box 25 4 (.t 0), none⟩,
 ⟨(some 2), .mv (.c .np), none⟩,
 ⟨(some 3), .mv (.c (.i .i64 0)), none⟩])
 (.seq (.seq (.reg [⟨(some 4), .ld true 4 (.t 1), none⟩,
 ⟨(some 5), .call f_ftree_May [(.t 4)], none⟩,
 ⟨(some 6), .un .not (.t 5), none⟩])
 (.cond (.t 6)
 (.seq (.reg [⟨(some 2), .mv (.c .np), none⟩,
 ⟨(some 3), .mv (.c (.i .i64 4)), none⟩])
 .ret)
 .skip))
 (.seq (.reg [⟨(some 7), .ld true 4 (.t 1), none⟩,
 ⟨(some 8), .call f_ftree_own [(.t 7)], none⟩,
 ⟨(some 9), .build [(.i .u8 0), (.s []), .nsl, .nsl] [(0, 4, (.t 8))], none⟩,
 ⟨(some 10), .box 97 4 (.t 9), none⟩,
 ⟨(some 2), .mv (.t 10), none⟩,
 ⟨(some 3), .mv (.c (.i .i64 0)), none⟩])
 .ret))) }
def c_ftree_Tree_Root : Fun := { cin := [.id], cout := [(.agg [.id, .id, (.sl 1 .id), (.sl 4 (.agg [.id, .id, (.sl 1 .id), (.sl 4 (.agg [.id, .id, (.sl 1 .id), (.sl 4 .id)]))]))])], ntmps := 11, keep := false, res := [(2, some (true, 4))], body :=
 (.seq (.reg [⟨(some 2), .alloc 25 [(.i .u8 0), (.s []), .nsl, .nsl], none⟩])
 (.seq (.seq (.reg [⟨(some 3), .mv (.t 0), none⟩,
 ⟨(some 4), .eq .ptr false (.t 3) (.c .np), none⟩])
 (.cond (.t 4)
 (.seq (.reg [⟨(some 5), .build [(.i .u8 0), (.s []), .nsl, .nsl] [(0, 1, (.c (.i .u8 2)))], none⟩,
 ⟨none, .st 4 (.t 2) (.t 5), none⟩])
 .ret)
 .skip))
 (.seq (.reg [⟨(some 6), .mv (.t 0), none⟩,
 ⟨(some 7), .nck (.t 6), none⟩,
 ⟨(some 8), .fa 0 (.t 7), none⟩,
 ⟨(some 9), .ld true 4 (.t 8), none⟩,
 ⟨(some 10), .call f_ftree_own [(.t 9)], none⟩,
 ⟨none, .st 4 (.t 2) (.t 10), none⟩])
 .ret))) }
def c_touchstoneref07_Same : Fun := { cin := [(.agg [.id, .id, (.sl 1 .id), (.sl 4 (.agg [.id, .id, (.sl 1 .id), (.sl 4 (.agg [.id, .id, (.sl 1 .id), (.sl 4 .id)]))]))]), (.agg [.id, .id, (.sl 1 .id), (.sl 4 (.agg [.id, .id, (.sl 1 .id), (.sl 4 (.agg [.id, .id, (.sl 1 .id), (.sl 4 .id)]))]))])], cout := [.id], ntmps := 74, keep := false, res := [(4, none)], body :=
 (.seq (.reg [⟨(some 2), .box 25 4 (.t 0), none⟩,
 ⟨(some 3), .box 25 4 (.t 1), none⟩,
 ⟨(some 4), .mv (.c (.b false)), none⟩])
 (.seq (.seq (.reg [⟨(some 7), .fa 0 (.t 2), none⟩,
 ⟨(some 8), .ld false 1 (.t 7), none⟩,
 ⟨(some 9), .fa 0 (.t 3), none⟩,
 ⟨(some 10), .ld false 1 (.t 9), none⟩,
 ⟨(some 11), .bin .neq (.t 8) (.t 10), none⟩,
 ⟨(some 12), .mv (.t 11), none⟩,
 ⟨(some 13), .fa 1 (.t 2), (some (12, false))⟩,
 ⟨(some 14), .ld false 1 (.t 13), (some (12, false))⟩,
 ⟨(some 15), .fa 1 (.t 3), (some (12, false))⟩,
 ⟨(some 16), .ld false 1 (.t 15), (some (12, false))⟩,
 ⟨(some 17), .bin .neq (.t 14) (.t 16), (some (12, false))⟩,
 ⟨(some 18), .pick (.t 12) (.c (.b true)) (.t 17), none⟩,
 ⟨(some 19), .mv (.t 18), none⟩,
 ⟨(some 20), .fa 2 (.t 2), (some (19, false))⟩,
 ⟨(some 21), .ld false 1 (.t 20), (some (19, false))⟩,
 ⟨(some 22), .len 1 (.t 21), (some (19, false))⟩,
 ⟨(some 23), .fa 2 (.t 3), (some (19, false))⟩,
 ⟨(some 24), .ld false 1 (.t 23), (some (19, false))⟩,
 ⟨(some 25), .len 1 (.t 24), (some (19, false))⟩,
 ⟨(some 26), .bin .neq (.t 22) (.t 25), (some (19, false))⟩,
 ⟨(some 27), .pick (.t 19) (.c (.b true)) (.t 26), none⟩,
 ⟨(some 28), .mv (.t 27), none⟩,
 ⟨(some 29), .fa 3 (.t 2), (some (28, false))⟩,
 ⟨(some 30), .ld false 1 (.t 29), (some (28, false))⟩,
 ⟨(some 31), .len 1 (.t 30), (some (28, false))⟩,
 ⟨(some 32), .fa 3 (.t 3), (some (28, false))⟩,
 ⟨(some 33), .ld false 1 (.t 32), (some (28, false))⟩,
 ⟨(some 34), .len 1 (.t 33), (some (28, false))⟩,
 ⟨(some 35), .bin .neq (.t 31) (.t 34), (some (28, false))⟩,
 ⟨(some 36), .pick (.t 28) (.c (.b true)) (.t 35), none⟩])
 (.cond (.t 36)
 (.seq (.reg [⟨(some 4), .mv (.c (.b false)), none⟩])
 .ret)
 .skip))
 (.seq (.seq (.reg [⟨(some 5), .mv (.c (.i .i64 0)), none⟩])
 (.blk 0 (.loop (.seq (.seq (.reg [⟨(some 37), .mv (.t 5), none⟩,
 ⟨(some 38), .fa 2 (.t 2), none⟩,
 ⟨(some 39), .ld false 1 (.t 38), none⟩,
 ⟨(some 40), .len 1 (.t 39), none⟩,
 ⟨(some 41), .bin .lss (.t 37) (.t 40), none⟩])
 (.cond (.t 41)
 .skip
 (.exit 0)))
 (.seq (.blk 1 (.seq (.regD [⟨(some 44), .fa 2 (.t 2), none⟩,
 ⟨(some 45), .ld false 1 (.t 44), none⟩,
 ⟨(some 46), .mv (.t 5), none⟩,
 ⟨(some 47), .ia 1 (.t 45) (.t 46), none⟩,
 ⟨(some 48), .ld false 1 (.t 47), none⟩,
 ⟨(some 49), .fa 2 (.t 3), none⟩,
 ⟨(some 50), .ld false 1 (.t 49), none⟩,
 ⟨(some 51), .mv (.t 5), none⟩,
 ⟨(some 52), .ia 1 (.t 50) (.t 51), none⟩,
 ⟨(some 53), .ld false 1 (.t 52), none⟩,
 ⟨(some 54), .bin .neq (.t 48) (.t 53), none⟩] [])
 (.cond (.t 54)
 (.seq (.reg [⟨(some 4), .mv (.c (.b false)), none⟩])
 .ret)
 .skip)))
 (.reg [⟨(some 42), .mv (.t 5), none⟩,
 ⟨(some 43), .bin .add (.t 42) (.c (.i .i64 1)), none⟩,
 ⟨(some 5), .mv (.t 43), none⟩]))))))
 (.seq (.seq (.reg [⟨(some 6), .mv (.c (.i .i64 0)), none⟩])
 (.blk 2 (.loop (.seq (.seq (.reg [⟨(some 55), .mv (.t 6), none⟩,
 ⟨(some 56), .fa 3 (.t 2), none⟩,
 ⟨(some 57), .ld false 1 (.t 56), none⟩,
 ⟨(some 58), .len 1 (.t 57), none⟩,
 ⟨(some 59), .bin .lss (.t 55) (.t 58), none⟩])
 (.cond (.t 59)
 .skip
 (.exit 2)))
 (.seq (.blk 3 (.seq (.regD [⟨(some 62), .fa 3 (.t 2), none⟩,
 ⟨(some 63), .ld false 1 (.t 62), none⟩,
 ⟨(some 64), .mv (.t 6), none⟩,
 ⟨(some 65), .ia 4 (.t 63) (.t 64), none⟩,
 ⟨(some 66), .ld true 4 (.t 65), none⟩,
 ⟨(some 67), .fa 3 (.t 3), none⟩,
 ⟨(some 68), .ld false 1 (.t 67), none⟩,
 ⟨(some 69), .mv (.t 6), none⟩,
 ⟨(some 70), .ia 4 (.t 68) (.t 69), none⟩,
 ⟨(some 71), .ld true 4 (.t 70), none⟩,
 ⟨(some 72), .call f_touchstoneref07_Same [(.t 66), (.t 71)], none⟩,
 ⟨(some 73), .un .not (.t 72), none⟩] [])
 (.cond (.t 73)
 (.seq (.reg [⟨(some 4), .mv (.c (.b false)), none⟩])
 .ret)
 .skip)))
 (.reg [⟨(some 60), .mv (.t 6), none⟩,
 ⟨(some 61), .bin .add (.t 60) (.c (.i .i64 1)), none⟩,
 ⟨(some 6), .mv (.t 61), none⟩]))))))
 (.seq (.reg [⟨(some 4), .mv (.c (.b true)), none⟩])
 .ret))))) }
def c_ftree_Well : Fun := { cin := [(.agg [.id, .id, (.sl 1 .id), (.sl 4 (.agg [.id, .id, (.sl 1 .id), (.sl 4 (.agg [.id, .id, (.sl 1 .id), (.sl 4 .id)]))]))])], cout := [.id], ntmps := 89, keep := false, res := [(2, none)], body :=
 (.seq (.reg [⟨(some 1), .box 25 4 (.t 0), none⟩,
 ⟨(some 2), .mv (.c (.b false)), none⟩])
 (.seq (.seq (.reg [⟨(some 5), .fa 0 (.t 1), none⟩,
 ⟨(some 6), .ld false 1 (.t 5), none⟩])
 (.blk 0 (.seq (.seq (.reg [⟨(some 8), .bin .eql (.t 6) (.c (.i .u8 1)), none⟩,
 ⟨(some 7), .mv (.t 8), none⟩])
 (.cond (.t 7)
 .skip
 (.reg [⟨(some 9), .bin .eql (.t 6) (.c (.i .u8 3)), none⟩,
 ⟨(some 7), .mv (.t 9), none⟩])))
 (.cond (.t 7)
 (.seq (.reg [⟨(some 10), .fa 2 (.t 1), none⟩,
 ⟨(some 11), .ld false 1 (.t 10), none⟩,
 ⟨(some 12), .len 1 (.t 11), none⟩,
 ⟨(some 13), .fa 3 (.t 1), none⟩,
 ⟨(some 14), .ld false 1 (.t 13), none⟩,
 ⟨(some 15), .len 1 (.t 14), none⟩,
 ⟨(some 16), .bin .add (.t 12) (.t 15), none⟩,
 ⟨(some 17), .bin .eql (.t 16) (.c (.i .i64 0)), none⟩,
 ⟨(some 18), .mv (.t 17), none⟩,
 ⟨(some 19), .fa 1 (.t 1), (some (18, true))⟩,
 ⟨(some 20), .ld false 1 (.t 19), (some (18, true))⟩,
 ⟨(some 21), .len 0 (.t 20), (some (18, true))⟩,
 ⟨(some 22), .bin .leq (.t 21) (.c (.i .i64 256)), (some (18, true))⟩,
 ⟨(some 23), .pick (.t 18) (.t 22) (.c (.b false)), none⟩,
 ⟨(some 24), .mv (.t 23), none⟩,
 ⟨(some 25), .fa 1 (.t 1), (some (24, true))⟩,
 ⟨(some 26), .ld false 1 (.t 25), (some (24, true))⟩,
 ⟨(some 27), .call f_strings_IndexByte [(.t 26), (.c (.i .u8 0))], (some (24, true))⟩,
 ⟨(some 28), .bin .lss (.t 27) (.c (.i .i64 0)), (some (24, true))⟩,
 ⟨(some 29), .pick (.t 24) (.t 28) (.c (.b false)), none⟩,
 ⟨(some 30), .mv (.t 29), none⟩,
 ⟨(some 31), .fa 0 (.t 1), (some (30, true))⟩,
 ⟨(some 32), .ld false 1 (.t 31), (some (30, true))⟩,
 ⟨(some 33), .bin .eql (.t 32) (.c (.i .u8 1)), (some (30, true))⟩,
 ⟨(some 34), .mv (.t 33), (some (30, true))⟩,
 ⟨(some 35), .fa 1 (.t 1), (some (34, false))⟩,
 ⟨(some 36), .ld false 1 (.t 35), (some (34, false))⟩,
 ⟨(some 37), .bin .neq (.t 36) (.c (.s [])), (some (34, false))⟩,
 ⟨(some 38), .pick (.t 34) (.c (.b true)) (.t 37), (some (30, true))⟩,
 ⟨(some 39), .pick (.t 30) (.t 38) (.c (.b false)), none⟩,
 ⟨(some 2), .mv (.t 39), none⟩])
 .ret)
 (.seq (.reg [⟨(some 41), .bin .eql (.t 6) (.c (.i .u8 2)), none⟩,
 ⟨(some 40), .mv (.t 41), none⟩])
 (.cond (.t 40)
 (.seq (.seq (.reg [⟨(some 42), .fa 1 (.t 1), none⟩,
 ⟨(some 43), .ld false 1 (.t 42), none⟩,
 ⟨(some 44), .bin .neq (.t 43) (.c (.s [])), none⟩,
 ⟨(some 45), .mv (.t 44), none⟩,
 ⟨(some 46), .fa 2 (.t 1), (some (45, false))⟩,
 ⟨(some 47), .ld false 1 (.t 46), (some (45, false))⟩,
 ⟨(some 48), .len 1 (.t 47), (some (45, false))⟩,
 ⟨(some 49), .fa 3 (.t 1), (some (45, false))⟩,
 ⟨(some 50), .ld false 1 (.t 49), (some (45, false))⟩,
 ⟨(some 51), .len 1 (.t 50), (some (45, false))⟩,
 ⟨(some 52), .bin .neq (.t 48) (.t 51), (some (45, false))⟩,
 ⟨(some 53), .pick (.t 45) (.c (.b true)) (.t 52), none⟩])
 (.cond (.t 53)
 (.seq (.reg [⟨(some 2), .mv (.c (.b false)), none⟩])
 .ret)
 .skip))
 (.seq (.seq (.reg [⟨(some 54), .fa 2 (.t 1), none⟩,
 ⟨(some 55), .ld false 1 (.t 54), none⟩,
 ⟨(some 56), .len 1 (.t 55), none⟩,
 ⟨(some 57), .mv (.c (.i .i64 0)), none⟩])
 (.blk 1 (.loop (.seq (.reg [⟨(some 58), .bin .lss (.t 57) (.t 56), none⟩])
 (.seq (.cond (.t 58)
 .skip
 (.exit 1))
 (.seq (.blk 2 (.seq (.reg [⟨(some 59), .mv (.t 57), none⟩,
 ⟨(some 60), .ia 1 (.t 55) (.t 57), none⟩,
 ⟨(some 61), .ld false 1 (.t 60), none⟩,
 ⟨(some 3), .mv (.t 59), none⟩,
 ⟨(some 4), .mv (.t 61), none⟩])
 (.seq (.reg [⟨(some 62), .mv (.t 4), none⟩,
 ⟨(some 63), .call f_path_Name [(.t 62)], none⟩,
 ⟨(some 64), .un .not (.t 63), none⟩,
 ⟨(some 65), .mv (.t 64), none⟩,
 ⟨(some 66), .mv (.t 3), (some (65, false))⟩,
 ⟨(some 67), .bin .gtr (.t 66) (.c (.i .i64 0)), (some (65, false))⟩,
 ⟨(some 68), .mv (.t 67), (some (65, false))⟩,
 ⟨(some 69), .mv (.t 4), (some (68, true))⟩,
 ⟨(some 70), .fa 2 (.t 1), (some (68, true))⟩,
 ⟨(some 71), .ld false 1 (.t 70), (some (68, true))⟩,
 ⟨(some 72), .mv (.t 3), (some (68, true))⟩,
 ⟨(some 73), .bin .sub (.t 72) (.c (.i .i64 1)), (some (68, true))⟩,
 ⟨(some 74), .ia 1 (.t 71) (.t 73), (some (68, true))⟩,
 ⟨(some 75), .ld false 1 (.t 74), (some (68, true))⟩,
 ⟨(some 76), .bin .leq (.t 69) (.t 75), (some (68, true))⟩,
 ⟨(some 77), .pick (.t 68) (.t 76) (.c (.b false)), (some (65, false))⟩,
 ⟨(some 78), .pick (.t 65) (.c (.b true)) (.t 77), none⟩,
 ⟨(some 79), .mv (.t 78), none⟩,
 ⟨(some 80), .fa 3 (.t 1), (some (79, false))⟩,
 ⟨(some 81), .ld false 1 (.t 80), (some (79, false))⟩,
 ⟨(some 82), .mv (.t 3), (some (79, false))⟩,
 ⟨(some 83), .ia 4 (.t 81) (.t 82), (some (79, false))⟩,
 ⟨(some 84), .ld true 4 (.t 83), (some (79, false))⟩,
 ⟨(some 85), .call f_ftree_Well [(.t 84)], (some (79, false))⟩,
 ⟨(some 86), .un .not (.t 85), (some (79, false))⟩,
 ⟨(some 87), .pick (.t 79) (.c (.b true)) (.t 86), none⟩])
 (.cond (.t 87)
 (.seq (.reg [⟨(some 2), .mv (.c (.b false)), none⟩])
 .ret)
 .skip))))
 (.reg [⟨(some 88), .bin .add (.t 57) (.c (.i .i64 1)), none⟩,
 ⟨(some 57), .mv (.t 88), none⟩])))))))
 (.seq (.reg [⟨(some 2), .mv (.c (.b true)), none⟩])
 .ret)))
 .skip))))))
 (.seq (.reg [⟨(some 2), .mv (.c (.b false)), none⟩])
 .ret))) }
def c_ftree_Tree_Kind : Fun := { cin := [.id, (.sl 1 .id)], cout := [.id], ntmps := 9, keep := false, res := [(4, none)], body :=
 (.seq (.reg [⟨(some 4), .mv (.c (.i .u8 0)), none⟩])
 (.seq (.reg [⟨(some 5), .mv (.t 0), none⟩,
 ⟨(some 6), .mv (.t 1), none⟩,
 ⟨(some 7), .call f_ftree_Tree_at [(.t 5), (.t 6)], none⟩,
 ⟨(some 8), .fld false 0 1 (.t 7), none⟩,
 ⟨(some 4), .mv (.t 8), none⟩])
 .ret)) }
def c_walk_Spot : Fun := { cin := [.id, .id], cout := [(.sl 1 .id), .id, .id], ntmps := 13, keep := false, res := [(4, none), (5, none), (6, none)], body :=
 (.seq (.reg [⟨(some 4), .mv (.c .nsl), none⟩,
 ⟨(some 5), .mv (.c (.i .u8 0)), none⟩,
 ⟨(some 6), .mv (.c (.i .i64 0)), none⟩])
 (.seq (.reg [⟨(some 7), .mv (.t 0), none⟩,
 ⟨(some 8), .mv (.t 1), none⟩,
 ⟨(some 9), .call f_walk_walk [(.t 7), (.t 8), (.c (.b false))], none⟩,
 ⟨(some 10), .ext (.t 9) 0, none⟩,
 ⟨(some 11), .ext (.t 9) 1, none⟩,
 ⟨(some 12), .ext (.t 9) 2, none⟩,
 ⟨(some 4), .mv (.t 10), none⟩,
 ⟨(some 5), .mv (.t 11), none⟩,
 ⟨(some 6), .mv (.t 12), none⟩])
 .ret)) }
def c_walk_Find : Fun := { cin := [.id, .id], cout := [(.sl 1 .id), .id, .id], ntmps := 13, keep := false, res := [(4, none), (5, none), (6, none)], body :=
 (.seq (.reg [⟨(some 4), .mv (.c .nsl), none⟩,
 ⟨(some 5), .mv (.c (.i .u8 0)), none⟩,
 ⟨(some 6), .mv (.c (.i .i64 0)), none⟩])
 (.seq (.reg [⟨(some 7), .mv (.t 0), none⟩,
 ⟨(some 8), .mv (.t 1), none⟩,
 ⟨(some 9), .call f_walk_walk [(.t 7), (.t 8), (.c (.b true))], none⟩,
 ⟨(some 10), .ext (.t 9) 0, none⟩,
 ⟨(some 11), .ext (.t 9) 1, none⟩,
 ⟨(some 12), .ext (.t 9) 2, none⟩,
 ⟨(some 4), .mv (.t 10), none⟩,
 ⟨(some 5), .mv (.t 11), none⟩,
 ⟨(some 6), .mv (.t 12), none⟩])
 .ret)) }
def c_touchstonelaw13_works : Fun := { cin := [], cout := [.id], ntmps := 90, keep := false, res := [(0, none)], body :=
 (.seq (.reg [⟨(some 0), .mv (.c (.b false)), none⟩])
 (.seq (.reg [⟨(some 4), .bsl 1 [(.c (.s [101]))], none⟩,
 ⟨(some 5), .call f_touchstonelaw13_file [(.c (.s []))], none⟩,
 ⟨(some 6), .bsl 4 [(.t 5)], none⟩,
 ⟨(some 7), .call f_touchstonelaw13_dir [(.t 4), (.t 6)], none⟩,
 ⟨(some 1), .alloc 25 [(.i .u8 0), (.s []), .nsl, .nsl], none⟩,
 ⟨none, .st 4 (.t 1) (.t 7), none⟩])
 (.seq (.regD [⟨(some 8), .bsl 1 [(.c (.s [97])), (.c (.s [100]))], none⟩,
 ⟨(some 9), .callQ false f_touchstonelaw13_file [(.c (.s [120]))], none⟩,
 ⟨(some 10), .ld true 4 (.t 1), none⟩,
 ⟨(some 11), .bsl 4 [(.t 9), (.t 10)], none⟩,
 ⟨(some 12), .callQ false f_touchstonelaw13_dir [(.t 8), (.t 11)], none⟩,
 ⟨none, .mv (.c (.tup [])), none⟩,
 ⟨(some 2), .adp 25 [(.i .u8 0), (.s []), .nsl, .nsl] 4 (.t 12), none⟩] [(2, (1, 2))])
 (.seq (.reg [⟨(some 13), .bsl 1 [(.c (.s [97])), (.c (.s [108]))], none⟩,
 ⟨(some 14), .call f_touchstonelaw13_file [(.c (.s [120]))], none⟩,
 ⟨(some 15), .call f_touchstonelaw13_link [(.c (.s [97]))], none⟩,
 ⟨(some 16), .bsl 4 [(.t 14), (.t 15)], none⟩,
 ⟨(some 17), .call f_touchstonelaw13_dir [(.t 13), (.t 16)], none⟩,
 ⟨(some 3), .alloc 25 [(.i .u8 0), (.s []), .nsl, .nsl], none⟩,
 ⟨none, .st 4 (.t 3) (.t 17), none⟩])
 (.seq (.regD [⟨(some 18), .ld true 4 (.t 2), none⟩,
 ⟨(some 19), .bsl 1 [(.c (.s [100]))], none⟩,
 ⟨(some 20), .bsl 1 [(.c (.s [97])), (.c (.s [101]))], none⟩,
 ⟨(some 21), .callQ false f_touchstonelaw13_file [(.c (.s [120]))], none⟩,
 ⟨(some 22), .callQ false f_touchstonelaw13_file [(.c (.s []))], none⟩,
 ⟨(some 23), .bsl 4 [(.t 21), (.t 22)], none⟩,
 ⟨(some 24), .callQ false f_touchstonelaw13_dir [(.t 20), (.t 23)], none⟩,
 ⟨(some 25), .bsl 4 [(.t 24)], none⟩,
 ⟨(some 26), .callQ false f_touchstonelaw13_dir [(.t 19), (.t 25)], none⟩,
 ⟨(some 27), .bsl 1 [(.c (.s [109, 118])), (.c (.s [97])), (.c (.s [100]))], none⟩,
 ⟨(some 28), .callQ false f_touchstonelaw13_runs [(.t 18), (.c (.i .i64 0)), (.c (.s [])), (.t 26), (.t 27)], none⟩,
 ⟨(some 29), .mv (.t 28), none⟩,
 ⟨(some 30), .ld true 4 (.t 2), (some (29, true))⟩,
 ⟨(some 31), .ld true 4 (.t 2), (some (29, true))⟩,
 ⟨(some 32), .bsl 1 [(.c (.s [109, 118])), (.c (.s [97])), (.c (.s [98])), (.c (.s [99]))], (some (29, true))⟩,
 ⟨(some 33), .callQ false f_touchstonelaw13_runs [(.t 30), (.c (.i .i64 1)), (.c (.s [109, 118, 58, 32, 99, 58, 32, 110, 111, 116, 32, 116, 104, 101, 114, 101, 10])), (.t 31), (.t 32)], (some (29, true))⟩,
 ⟨(some 34), .pick (.t 29) (.t 33) (.c (.b false)), none⟩,
 ⟨(some 35), .mv (.t 34), none⟩,
 ⟨(some 36), .ld true 4 (.t 2), (some (35, true))⟩,
 ⟨(some 37), .ld true 4 (.t 2), (some (35, true))⟩,
 ⟨(some 38), .bsl 1 [(.c (.s [109, 118])), (.c (.s [100])), (.c (.s [100]))], (some (35, true))⟩,
 ⟨(some 39), .callQ false f_touchstonelaw13_runs [(.t 36), (.c (.i .i64 1)), (.c (.s [109, 118, 58, 32, 100, 58, 32, 105, 110, 116, 111, 32, 105, 116, 115, 101, 108, 102, 10])), (.t 37), (.t 38)], (some (35, true))⟩,
 ⟨(some 40), .pick (.t 35) (.t 39) (.c (.b false)), none⟩,
 ⟨(some 41), .mv (.t 40), none⟩,
 ⟨(some 42), .ld true 4 (.t 2), (some (41, true))⟩,
 ⟨(some 43), .ld true 4 (.t 2), (some (41, true))⟩,
 ⟨(some 44), .bsl 1 [(.c (.s [99, 112])), (.c (.s [100])), (.c (.s [113]))], (some (41, true))⟩,
 ⟨(some 45), .callQ false f_touchstonelaw13_runs [(.t 42), (.c (.i .i64 1)), (.c (.s [99, 112, 58, 32, 100, 58, 32, 119, 114, 111, 110, 103, 32, 107, 105, 110, 100, 10])), (.t 43), (.t 44)], (some (41, true))⟩,
 ⟨(some 46), .pick (.t 41) (.t 45) (.c (.b false)), none⟩,
 ⟨(some 47), .mv (.t 46), none⟩,
 ⟨(some 48), .ld true 4 (.t 2), (some (47, true))⟩,
 ⟨(some 49), .bsl 1 [(.c (.s [97])), (.c (.s [100])), (.c (.s [113]))], (some (47, true))⟩,
 ⟨(some 50), .callQ false f_touchstonelaw13_file [(.c (.s [120]))], (some (47, true))⟩,
 ⟨(some 51), .ld true 4 (.t 1), (some (47, true))⟩,
 ⟨(some 52), .ld true 4 (.t 1), (some (47, true))⟩,
 ⟨(some 53), .bsl 4 [(.t 50), (.t 51), (.t 52)], (some (47, true))⟩,
 ⟨(some 54), .callQ false f_touchstonelaw13_dir [(.t 49), (.t 53)], (some (47, true))⟩,
 ⟨(some 55), .bsl 1 [(.c (.s [99, 112])), (.c (.s [45, 114])), (.c (.s [100])), (.c (.s [113]))], (some (47, true))⟩,
 ⟨(some 56), .callQ false f_touchstonelaw13_runs [(.t 48), (.c (.i .i64 0)), (.c (.s [])), (.t 54), (.t 55)], (some (47, true))⟩,
 ⟨(some 57), .pick (.t 47) (.t 56) (.c (.b false)), none⟩,
 ⟨(some 58), .mv (.t 57), none⟩,
 ⟨(some 59), .bsl 1 [(.c (.s [97]))], (some (58, true))⟩,
 ⟨(some 60), .callQ false f_touchstonelaw13_file [(.c (.s [120]))], (some (58, true))⟩,
 ⟨(some 61), .bsl 4 [(.t 60)], (some (58, true))⟩,
 ⟨(some 62), .callQ false f_touchstonelaw13_dir [(.t 59), (.t 61)], (some (58, true))⟩,
 ⟨(some 63), .ld true 4 (.t 3), (some (58, true))⟩,
 ⟨(some 64), .bsl 1 [(.c (.s [108, 110])), (.c (.s [45, 115])), (.c (.s [97])), (.c (.s [108]))], (some (58, true))⟩,
 ⟨(some 65), .callQ false f_touchstonelaw13_runs [(.t 62), (.c (.i .i64 0)), (.c (.s [])), (.t 63), (.t 64)], (some (58, true))⟩,
 ⟨(some 66), .pick (.t 58) (.t 65) (.c (.b false)), none⟩,
 ⟨(some 67), .mv (.t 66), none⟩,
 ⟨(some 68), .ld true 4 (.t 3), (some (67, true))⟩,
 ⟨(some 69), .bsl 1 [(.c (.s [97])), (.c (.s [108])), (.c (.s [109]))], (some (67, true))⟩,
 ⟨(some 70), .callQ false f_touchstonelaw13_file [(.c (.s [120]))], (some (67, true))⟩,
 ⟨(some 71), .callQ false f_touchstonelaw13_link [(.c (.s [97]))], (some (67, true))⟩,
 ⟨(some 72), .callQ false f_touchstonelaw13_file [(.c (.s [120]))], (some (67, true))⟩,
 ⟨(some 73), .bsl 4 [(.t 70), (.t 71), (.t 72)], (some (67, true))⟩,
 ⟨(some 74), .callQ false f_touchstonelaw13_dir [(.t 69), (.t 73)], (some (67, true))⟩,
 ⟨(some 75), .bsl 1 [(.c (.s [99, 112])), (.c (.s [108])), (.c (.s [109]))], (some (67, true))⟩,
 ⟨(some 76), .callQ false f_touchstonelaw13_runs [(.t 68), (.c (.i .i64 0)), (.c (.s [])), (.t 74), (.t 75)], (some (67, true))⟩,
 ⟨(some 77), .pick (.t 67) (.t 76) (.c (.b false)), none⟩,
 ⟨(some 78), .mv (.t 77), none⟩,
 ⟨(some 79), .ld true 4 (.t 2), (some (78, true))⟩,
 ⟨(some 80), .ld true 4 (.t 2), (some (78, true))⟩,
 ⟨(some 81), .bsl 1 [(.c (.s [108, 110])), (.c (.s [97])), (.c (.s [98]))], (some (78, true))⟩,
 ⟨(some 82), .callQ false f_touchstonelaw13_runs [(.t 79), (.c (.i .i64 2)), (.c (.s [108, 110, 58, 32, 117, 115, 97, 103, 101, 10])), (.t 80), (.t 81)], (some (78, true))⟩,
 ⟨(some 83), .pick (.t 78) (.t 82) (.c (.b false)), none⟩,
 ⟨(some 84), .mv (.t 83), none⟩,
 ⟨(some 85), .ld true 4 (.t 2), (some (84, true))⟩,
 ⟨(some 86), .ld true 4 (.t 2), (some (84, true))⟩,
 ⟨(some 87), .bsl 1 [(.c (.s [109, 118])), (.c (.s [97]))], (some (84, true))⟩,
 ⟨(some 88), .callQ false f_touchstonelaw13_runs [(.t 85), (.c (.i .i64 2)), (.c (.s [109, 118, 58, 32, 117, 115, 97, 103, 101, 10])), (.t 86), (.t 87)], (some (84, true))⟩,
 ⟨(some 89), .pick (.t 84) (.t 88) (.c (.b false)), none⟩,
 ⟨(some 0), .mv (.t 89), none⟩] [(0, (0, 9)), (30, (30, 37)), (33, (32, 33)), (34, (32, 34)), (45, (42, 45)), (50, (50, 57))])
 .ret))))) }
def c_path_Check : Fun := { cin := [.id], cout := [.id], ntmps := 25, keep := false, res := [(2, some (false, 1))], body :=
 (.seq (.reg [⟨(some 2), .alloc 30 [(.i .i64 0)], none⟩])
 (.seq (.blk 0 (.seq (.reg [⟨(some 5), .mv (.t 0), none⟩,
 ⟨(some 6), .bin .eql (.t 5) (.c (.s [])), none⟩,
 ⟨(some 7), .mv (.t 6), none⟩,
 ⟨(some 8), .mv (.t 0), (some (7, false))⟩,
 ⟨(some 9), .call f_strings_Contains [(.t 8), (.c (.s [0]))], (some (7, false))⟩,
 ⟨(some 10), .pick (.t 7) (.c (.b true)) (.t 9), none⟩,
 ⟨(some 4), .mv (.t 10), none⟩])
 (.cond (.t 4)
 (.seq (.reg [⟨none, .st 1 (.t 2) (.c (.i .i64 4)), none⟩])
 .ret)
 (.seq (.reg [⟨(some 12), .mv (.t 0), none⟩,
 ⟨(some 13), .len 0 (.t 12), none⟩,
 ⟨(some 14), .bin .gtr (.t 13) (.c (.i .i64 256)), none⟩,
 ⟨(some 11), .mv (.t 14), none⟩])
 (.cond (.t 11)
 (.seq (.reg [⟨none, .st 1 (.t 2) (.c (.i .i64 40)), none⟩])
 .ret)
 .skip)))))
 (.seq (.seq (.reg [⟨(some 15), .mv (.t 0), none⟩,
 ⟨(some 16), .call f_path_steps [(.t 15)], none⟩])
 (.blk 1 (.rf (.t 16) [17] (.reg [⟨(some 3), .mv (.t 17), none⟩])
 (.blk 2 (.seq (.reg [⟨(some 18), .mv (.t 3), none⟩,
 ⟨(some 19), .bin .neq (.t 18) (.c (.s [46, 46])), none⟩,
 ⟨(some 20), .mv (.t 19), none⟩,
 ⟨(some 21), .mv (.t 3), (some (20, true))⟩,
 ⟨(some 22), .call f_path_Name [(.t 21)], (some (20, true))⟩,
 ⟨(some 23), .un .not (.t 22), (some (20, true))⟩,
 ⟨(some 24), .pick (.t 20) (.t 23) (.c (.b false)), none⟩])
 (.cond (.t 24)
 (.seq (.reg [⟨none, .st 1 (.t 2) (.c (.i .i64 4)), none⟩])
 .ret)
 .skip))))))
 (.seq (.reg [⟨none, .st 1 (.t 2) (.c (.i .i64 0)), none⟩])
 .ret)))) }
def c_moves_Run : Fun := { cin := [.id, (.sl 1 .id)], cout := [.id, .id, .id, .id], ntmps := 116, keep := false, res := [(4, none), (5, none), (6, none), (7, none)], body :=
 (.seq (.reg [⟨(some 4), .mv (.c (.i .i64 0)), none⟩,
 ⟨(some 5), .mv (.c (.s [])), none⟩,
 ⟨(some 6), .mv (.c (.s [])), none⟩,
 ⟨(some 7), .mv (.c (.b false)), none⟩])
 (.seq (.seq (.reg [⟨(some 16), .mv (.t 0), none⟩,
 ⟨(some 17), .eq .ifc false (.t 16) (.c .ni), none⟩,
 ⟨(some 18), .mv (.t 17), none⟩,
 ⟨(some 19), .mv (.t 1), (some (18, false))⟩,
 ⟨(some 20), .len 1 (.t 19), (some (18, false))⟩,
 ⟨(some 21), .bin .eql (.t 20) (.c (.i .i64 0)), (some (18, false))⟩,
 ⟨(some 22), .pick (.t 18) (.c (.b true)) (.t 21), none⟩])
 (.cond (.t 22)
 (.seq (.reg [⟨(some 4), .mv (.c (.i .i64 0)), none⟩,
 ⟨(some 5), .mv (.c (.s [])), none⟩,
 ⟨(some 6), .mv (.c (.s [])), none⟩,
 ⟨(some 7), .mv (.c (.b false)), none⟩])
 .ret)
 .skip))
 (.seq (.regD [⟨(some 24), .call f_moves_utilities [], none⟩,
 ⟨(some 25), .mv (.t 1), none⟩,
 ⟨(some 26), .ia 1 (.t 25) (.c (.i .i64 0)), none⟩,
 ⟨(some 27), .ld false 1 (.t 26), none⟩,
 ⟨(some 28), .look 1 (.agg [(.s []), (.i .u8 0), (.b false), .nf, .nf, .nf]) true (.t 24) (.t 27), none⟩,
 ⟨(some 23), .mv (.t 28), none⟩,
 ⟨(some 29), .ext (.t 23) 0, none⟩,
 ⟨(some 30), .ext (.t 23) 1, none⟩,
 ⟨none, .mv (.c (.tup [])), none⟩,
 ⟨(some 8), .adp 128 [(.s []), (.i .u8 0), (.b false), .nf, .nf, .nf] 6 (.t 29), none⟩,
 ⟨(some 9), .mv (.t 30), none⟩] [(3, (0, 3))])
 (.seq (.seq (.reg [⟨(some 31), .mv (.t 9), none⟩,
 ⟨(some 32), .un .not (.t 31), none⟩])
 (.cond (.t 32)
 (.seq (.reg [⟨(some 4), .mv (.c (.i .i64 0)), none⟩,
 ⟨(some 5), .mv (.c (.s [])), none⟩,
 ⟨(some 6), .mv (.c (.s [])), none⟩,
 ⟨(some 7), .mv (.c (.b false)), none⟩])
 .ret)
 .skip))
 (.seq (.regD [⟨(some 34), .fa 0 (.t 8), none⟩,
 ⟨(some 35), .ld false 1 (.t 34), none⟩,
 ⟨(some 36), .mv (.t 1), none⟩,
 ⟨(some 37), .slc false 1 (.t 36) (some (.c (.i .i64 1))) none none, none⟩,
 ⟨(some 38), .mv (.t 1), none⟩,
 ⟨(some 39), .len 1 (.t 38), none⟩,
 ⟨(some 40), .call f_opts_Parse [(.t 35), (.t 37), (.c (.i .i64 2)), (.t 39)], none⟩,
 ⟨(some 33), .mv (.t 40), none⟩,
 ⟨(some 41), .ext (.t 33) 0, none⟩,
 ⟨(some 42), .ext (.t 33) 1, none⟩,
 ⟨none, .mv (.c (.tup [])), none⟩,
 ⟨(some 10), .adp 108 [(.s []), .nsl] 2 (.t 41), none⟩,
 ⟨(some 11), .mv (.t 42), none⟩] [])
 (.seq (.seq (.reg [⟨(some 43), .mv (.t 11), none⟩,
 ⟨(some 44), .bin .neq (.t 43) (.c (.i .i64 0)), none⟩,
 ⟨(some 45), .mv (.t 44), none⟩,
 ⟨(some 46), .fa 1 (.t 8), (some (45, false))⟩,
 ⟨(some 47), .ld false 1 (.t 46), (some (45, false))⟩,
 ⟨(some 48), .bin .neq (.t 47) (.c (.i .u8 0)), (some (45, false))⟩,
 ⟨(some 49), .mv (.t 48), (some (45, false))⟩,
 ⟨(some 50), .ld true 2 (.t 10), (some (49, true))⟩,
 ⟨(some 51), .fa 1 (.t 8), (some (49, true))⟩,
 ⟨(some 52), .ld false 1 (.t 51), (some (49, true))⟩,
 ⟨(some 53), .call f_opts_Opts_Has [(.t 50), (.t 52)], (some (49, true))⟩,
 ⟨(some 54), .un .not (.t 53), (some (49, true))⟩,
 ⟨(some 55), .pick (.t 49) (.t 54) (.c (.b false)), (some (45, false))⟩,
 ⟨(some 56), .pick (.t 45) (.c (.b true)) (.t 55), none⟩])
 (.cond (.t 56)
 (.seq (.regD [⟨(some 57), .mv (.t 1), none⟩,
 ⟨(some 58), .ia 1 (.t 57) (.c (.i .i64 0)), none⟩,
 ⟨(some 59), .ld false 1 (.t 58), none⟩,
 ⟨(some 60), .bin .add (.t 59) (.c (.s [58, 32, 117, 115, 97, 103, 101, 10])), none⟩,
 ⟨(some 4), .mv (.c (.i .i64 2)), none⟩,
 ⟨(some 5), .mv (.c (.s [])), none⟩,
 ⟨(some 6), .mv (.t 60), none⟩,
 ⟨(some 7), .mv (.c (.b true)), none⟩] [])
 .ret)
 .skip))
 (.seq (.reg [⟨(some 61), .fa 1 (.t 10), none⟩,
 ⟨(some 62), .ld false 1 (.t 61), none⟩,
 ⟨(some 63), .len 1 (.t 62), none⟩,
 ⟨(some 64), .bin .sub (.t 63) (.c (.i .i64 1)), none⟩,
 ⟨(some 12), .mv (.t 64), none⟩])
 (.seq (.regD [⟨(some 65), .mv (.t 0), none⟩,
 ⟨(some 66), .mv (.t 1), none⟩,
 ⟨(some 67), .ia 1 (.t 66) (.c (.i .i64 0)), none⟩,
 ⟨(some 68), .ld false 1 (.t 67), none⟩,
 ⟨(some 69), .ld true 2 (.t 10), none⟩,
 ⟨(some 70), .fa 1 (.t 10), none⟩,
 ⟨(some 71), .ld false 1 (.t 70), none⟩,
 ⟨(some 72), .mv (.t 12), none⟩,
 ⟨(some 73), .ia 1 (.t 71) (.t 72), none⟩,
 ⟨(some 74), .ld false 1 (.t 73), none⟩,
 ⟨(some 75), .build [.ni, (.s []), (.s []), .nsl, .nsl, (.s []), .nsl, (.i .u8 0)] [(0, 1, (.t 65)), (1, 1, (.t 68)), (2, 2, (.t 69)), (5, 1, (.t 74))], none⟩,
 ⟨(some 76), .box 135 8 (.t 75), none⟩,
 ⟨(some 13), .mv (.t 76), none⟩] [])
 (.seq (.seq (.regD [⟨(some 77), .mv (.t 13), none⟩,
 ⟨(some 78), .mv (.t 13), none⟩,
 ⟨(some 79), .nck (.t 78), none⟩,
 ⟨(some 80), .fa 5 (.t 79), none⟩,
 ⟨(some 81), .ld false 1 (.t 80), none⟩,
 ⟨(some 82), .mv (.t 13), none⟩,
 ⟨(some 83), .ld true 6 (.t 8), none⟩,
 ⟨(some 84), .mv (.t 12), none⟩,
 ⟨(some 85), .call f_moves_call_look [(.t 82), (.t 83), (.t 84)], none⟩,
 ⟨(some 86), .call f_moves_call_refuse [(.t 77), (.t 81), (.t 85)], none⟩,
 ⟨(some 87), .un .not (.t 86), none⟩] [(4, (4, 9))])
 (.cond (.t 87)
 (.seq (.reg [⟨(some 88), .fa 1 (.t 10), none⟩,
 ⟨(some 89), .ld false 1 (.t 88), none⟩,
 ⟨(some 90), .mv (.t 12), none⟩,
 ⟨(some 91), .slc false 1 (.t 89) none (some (.t 90)) none, none⟩,
 ⟨(some 92), .len 1 (.t 91), none⟩,
 ⟨(some 93), .mv (.c (.i .i64 0)), none⟩])
 (.blk 0 (.loop (.seq (.reg [⟨(some 94), .bin .lss (.t 93) (.t 92), none⟩])
 (.seq (.cond (.t 94)
 .skip
 (.exit 0))
 (.seq (.blk 1 (.seq (.reg [⟨(some 95), .ia 1 (.t 91) (.t 93), none⟩,
 ⟨(some 96), .ld false 1 (.t 95), none⟩,
 ⟨(some 15), .mv (.t 96), none⟩])
 (.reg [⟨(some 97), .mv (.t 13), none⟩,
 ⟨(some 98), .mv (.t 15), none⟩,
 ⟨(some 99), .mv (.t 13), none⟩,
 ⟨(some 100), .ld true 6 (.t 8), none⟩,
 ⟨(some 101), .mv (.t 15), none⟩,
 ⟨(some 102), .call f_moves_call_source [(.t 99), (.t 100), (.t 101)], none⟩,
 ⟨(some 103), .call f_moves_call_refuse [(.t 97), (.t 98), (.t 102)], none⟩])))
 (.reg [⟨(some 104), .bin .add (.t 93) (.c (.i .i64 1)), none⟩,
 ⟨(some 93), .mv (.t 104), none⟩])))))))
 .skip))
 (.seq (.regD [⟨(some 105), .mv (.t 13), none⟩,
 ⟨(some 106), .nck (.t 105), none⟩,
 ⟨(some 107), .fa 4 (.t 106), none⟩,
 ⟨(some 108), .ld false 1 (.t 107), none⟩,
 ⟨(some 109), .len 1 (.t 108), none⟩,
 ⟨(some 110), .mm false (.c (.i .i64 1)) (.t 109), none⟩,
 ⟨(some 111), .mv (.t 13), none⟩,
 ⟨(some 112), .nck (.t 111), none⟩,
 ⟨(some 113), .fa 4 (.t 112), none⟩,
 ⟨(some 114), .ld false 1 (.t 113), none⟩,
 ⟨(some 115), .call f_strings_Join [(.t 114), (.c (.s []))], none⟩,
 ⟨(some 4), .mv (.t 110), none⟩,
 ⟨(some 5), .mv (.c (.s [])), none⟩,
 ⟨(some 6), .mv (.t 115), none⟩,
 ⟨(some 7), .mv (.c (.b true)), none⟩] [(3, (3, 11))])
 .ret)))))))))) }
def c_touchstonelaw13_dir : Fun := { cin := [(.sl 1 .id), (.sl 4 (.agg [.id, .id, (.sl 1 .id), (.sl 4 (.agg [.id, .id, (.sl 1 .id), (.sl 4 (.agg [.id, .id, .id, .id]))]))]))], cout := [(.agg [.id, .id, (.sl 1 .id), (.sl 4 (.agg [.id, .id, (.sl 1 .id), (.sl 4 (.agg [.id, .id, (.sl 1 .id), (.sl 4 .id)]))]))])], ntmps := 8, keep := false, res := [(4, some (true, 4))], body :=
 (.seq (.reg [⟨(some 4), .alloc 25 [(.i .u8 0), (.s []), .nsl, .nsl], none⟩])
 (.seq (.reg [⟨(some 5), .mv (.t 0), none⟩,
 ⟨(some 6), .mv (.t 1), none⟩,
 ⟨(some 7), .build [(.i .u8 0), (.s []), .nsl, .nsl] [(0, 1, (.c (.i .u8 2))), (2, 1, (.t 5)), (3, 1, (.t 6))], none⟩,
 ⟨none, .st 4 (.t 4) (.t 7), none⟩])
 .ret)) }
def c_moves_Why : Fun := { cin := [.id], cout := [.id], ntmps := 14, keep := false, res := [(2, none)], body :=
 (.seq (.reg [⟨(some 2), .mv (.c (.s [])), none⟩])
 (.seq (.seq (.reg [⟨(some 6), .mkm, none⟩,
 ⟨none, .ins 0 (.t 6) (.c (.i .i64 5)) (.c (.s [110, 111, 116, 32, 116, 104, 101, 114, 101])), none⟩,
 ⟨none, .ins 0 (.t 6) (.c (.i .i64 6)) (.c (.s [116, 104, 101, 114, 101, 32, 97, 108, 114, 101, 97, 100, 121])), none⟩,
 ⟨none, .ins 0 (.t 6) (.c (.i .i64 55)) (.c (.s [119, 114, 111, 110, 103, 32, 107, 105, 110, 100])), none⟩,
 ⟨none, .ins 0 (.t 6) (.c (.i .i64 57)) (.c (.s [110, 111, 116, 32, 101, 109, 112, 116, 121])), none⟩,
 ⟨none, .ins 0 (.t 6) (.c (.i .i64 58)) (.c (.s [105, 110, 116, 111, 32, 105, 116, 115, 101, 108, 102])), none⟩,
 ⟨none, .ins 0 (.t 6) (.c (.i .i64 61)) (.c (.s [116, 111, 111, 32, 109, 97, 110, 121, 32, 108, 105, 110, 107, 115])), none⟩,
 ⟨none, .ins 0 (.t 6) (.c (.i .i64 40)) (.c (.s [116, 111, 111, 32, 108, 97, 114, 103, 101])), none⟩,
 ⟨none, .ins 0 (.t 6) (.c (.i .i64 4)) (.c (.s [98, 97, 100, 32, 110, 97, 109, 101])), none⟩,
 ⟨(some 7), .mv (.t 6), none⟩,
 ⟨(some 8), .mv (.t 0), none⟩,
 ⟨(some 9), .look 0 (.s []) true (.t 7) (.t 8), none⟩,
 ⟨(some 5), .mv (.t 9), none⟩,
 ⟨(some 10), .ext (.t 5) 0, none⟩,
 ⟨(some 11), .ext (.t 5) 1, none⟩,
 ⟨(some 3), .mv (.t 10), none⟩,
 ⟨(some 4), .mv (.t 11), none⟩])
 (.seq (.reg [⟨(some 12), .mv (.t 4), none⟩])
 (.cond (.t 12)
 (.seq (.reg [⟨(some 13), .mv (.t 3), none⟩,
 ⟨(some 2), .mv (.t 13), none⟩])
 .ret)
 .skip)))
 (.seq (.reg [⟨(some 2), .mv (.c (.s [101, 114, 114, 111, 114])), none⟩])
 .ret))) }
def c_touchstonelaw13_file : Fun := { cin := [.id], cout := [(.agg [.id, .id, (.sl 1 .id), (.sl 4 (.agg [.id, .id, (.sl 1 .id), (.sl 4 (.agg [.id, .id, (.sl 1 .id), (.sl 4 .id)]))]))])], ntmps := 5, keep := false, res := [(2, some (true, 4))], body :=
 (.seq (.reg [⟨(some 2), .alloc 25 [(.i .u8 0), (.s []), .nsl, .nsl], none⟩])
 (.seq (.reg [⟨(some 3), .mv (.t 0), none⟩,
 ⟨(some 4), .build [(.i .u8 0), (.s []), .nsl, .nsl] [(0, 1, (.c (.i .u8 1))), (1, 1, (.t 3))], none⟩,
 ⟨none, .st 4 (.t 2) (.t 4), none⟩])
 .ret)) }
def c_touchstonelaw13_link : Fun := { cin := [.id], cout := [(.agg [.id, .id, (.sl 1 .id), (.sl 4 (.agg [.id, .id, (.sl 1 .id), (.sl 4 (.agg [.id, .id, (.sl 1 .id), (.sl 4 .id)]))]))])], ntmps := 5, keep := false, res := [(2, some (true, 4))], body :=
 (.seq (.reg [⟨(some 2), .alloc 25 [(.i .u8 0), (.s []), .nsl, .nsl], none⟩])
 (.seq (.reg [⟨(some 3), .mv (.t 0), none⟩,
 ⟨(some 4), .build [(.i .u8 0), (.s []), .nsl, .nsl] [(0, 1, (.c (.i .u8 3))), (1, 1, (.t 3))], none⟩,
 ⟨none, .st 4 (.t 2) (.t 4), none⟩])
 .ret)) }
def c_touchstonelaw13_many : Fun := { cin := [.id], cout := [.id], ntmps := 17, keep := false, res := [(2, none)], body :=
 (.seq (.reg [⟨(some 2), .mv (.c (.s [])), none⟩])
 (.seq (.reg [⟨(some 5), .mv (.t 0), none⟩,
 ⟨(some 6), .mks 5 1 [(.i .u8 0)] (.t 5) (.t 5), none⟩,
 ⟨(some 3), .mv (.t 6), none⟩])
 (.seq (.seq (.reg [⟨(some 4), .mv (.c (.i .i64 0)), none⟩])
 (.blk 0 (.loop (.seq (.seq (.reg [⟨(some 7), .mv (.t 4), none⟩,
 ⟨(some 8), .mv (.t 0), none⟩,
 ⟨(some 9), .bin .lss (.t 7) (.t 8), none⟩])
 (.cond (.t 9)
 .skip
 (.exit 0)))
 (.seq (.blk 1 (.seq (.thw 3)
 (.reg [⟨(some 12), .mv (.t 3), none⟩,
 ⟨(some 13), .mv (.t 4), none⟩,
 ⟨(some 14), .ia 1 (.t 12) (.t 13), none⟩,
 ⟨none, .st 1 (.t 14) (.c (.i .u8 97)), none⟩])))
 (.reg [⟨(some 10), .mv (.t 4), none⟩,
 ⟨(some 11), .bin .add (.t 10) (.c (.i .i64 1)), none⟩,
 ⟨(some 4), .mv (.t 11), none⟩]))))))
 (.seq (.reg [⟨(some 15), .mv (.t 3), none⟩,
 ⟨(some 16), .cvBS (.t 15), none⟩,
 ⟨(some 2), .mv (.t 16), none⟩])
 .ret)))) }
def c_touchstonelaw13_runs : Fun := { cin := [(.agg [.id, .id, (.sl 1 .id), (.sl 4 (.agg [.id, .id, (.sl 1 .id), (.sl 4 (.agg [.id, .id, (.sl 1 .id), (.sl 4 .id)]))]))]), .id, .id, (.agg [.id, .id, (.sl 1 .id), (.sl 4 (.agg [.id, .id, (.sl 1 .id), (.sl 4 (.agg [.id, .id, (.sl 1 .id), (.sl 4 .id)]))]))]), (.sl 1 .id)], cout := [.id], ntmps := 54, keep := false, res := [(10, none)], body :=
 (.seq (.reg [⟨(some 5), .box 25 4 (.t 0), none⟩,
 ⟨(some 8), .box 25 4 (.t 3), none⟩,
 ⟨(some 10), .mv (.c (.b false)), none⟩])
 (.seq (.reg [⟨(some 18), .ld true 4 (.t 5), none⟩,
 ⟨(some 19), .call f_ftree_New [(.t 18)], none⟩,
 ⟨(some 17), .mv (.t 19), none⟩,
 ⟨(some 20), .ext (.t 17) 0, none⟩,
 ⟨(some 21), .ext (.t 17) 1, none⟩,
 ⟨(some 11), .mv (.t 20), none⟩,
 ⟨(some 12), .mv (.t 21), none⟩])
 (.seq (.seq (.reg [⟨(some 22), .mv (.t 12), none⟩,
 ⟨(some 23), .bin .neq (.t 22) (.c (.i .i64 0)), none⟩])
 (.cond (.t 23)
 (.seq (.reg [⟨(some 10), .mv (.c (.b false)), none⟩])
 .ret)
 .skip))
 (.seq (.reg [⟨(some 25), .mv (.t 11), none⟩,
 ⟨(some 26), .mki 29 (.t 25), none⟩,
 ⟨(some 27), .mv (.t 4), none⟩,
 ⟨(some 28), .call f_moves_Run [(.t 26), (.t 27)], none⟩,
 ⟨(some 24), .mv (.t 28), none⟩,
 ⟨(some 29), .ext (.t 24) 0, none⟩,
 ⟨(some 30), .ext (.t 24) 1, none⟩,
 ⟨(some 31), .ext (.t 24) 2, none⟩,
 ⟨(some 32), .ext (.t 24) 3, none⟩,
 ⟨(some 13), .mv (.t 29), none⟩,
 ⟨(some 14), .mv (.t 30), none⟩,
 ⟨(some 15), .mv (.t 31), none⟩,
 ⟨(some 16), .mv (.t 32), none⟩])
 (.seq (.regD [⟨(some 33), .mv (.t 16), none⟩,
 ⟨(some 34), .mv (.t 33), none⟩,
 ⟨(some 35), .mv (.t 13), (some (34, true))⟩,
 ⟨(some 36), .mv (.t 1), (some (34, true))⟩,
 ⟨(some 37), .bin .eql (.t 35) (.t 36), (some (34, true))⟩,
 ⟨(some 38), .pick (.t 34) (.t 37) (.c (.b false)), none⟩,
 ⟨(some 39), .mv (.t 38), none⟩,
 ⟨(some 40), .mv (.t 14), (some (39, true))⟩,
 ⟨(some 41), .bin .eql (.t 40) (.c (.s [])), (some (39, true))⟩,
 ⟨(some 42), .pick (.t 39) (.t 41) (.c (.b false)), none⟩,
 ⟨(some 43), .mv (.t 42), none⟩,
 ⟨(some 44), .mv (.t 15), (some (43, true))⟩,
 ⟨(some 45), .mv (.t 2), (some (43, true))⟩,
 ⟨(some 46), .bin .eql (.t 44) (.t 45), (some (43, true))⟩,
 ⟨(some 47), .pick (.t 43) (.t 46) (.c (.b false)), none⟩,
 ⟨(some 48), .mv (.t 47), none⟩,
 ⟨(some 49), .mv (.t 11), (some (48, true))⟩,
 ⟨(some 50), .call f_ftree_Tree_Root [(.t 49)], (some (48, true))⟩,
 ⟨(some 51), .ld true 4 (.t 8), (some (48, true))⟩,
 ⟨(some 52), .call f_touchstoneref07_Same [(.t 50), (.t 51)], (some (48, true))⟩,
 ⟨(some 53), .pick (.t 48) (.t 52) (.c (.b false)), none⟩,
 ⟨(some 10), .mv (.t 53), none⟩] [(18, (17, 18))])
 .ret))))) }
def c_touchstonelaw13_done : Fun := { cin := [], cout := [.id], ntmps := 215, keep := false, res := [(0, none)], body :=
 (.seq (.reg [⟨(some 0), .mv (.c (.b false)), none⟩])
 (.seq (.reg [⟨(some 4), .bsl 1 [(.c (.s [97])), (.c (.s [108]))], none⟩,
 ⟨(some 5), .call f_touchstonelaw13_file [(.c (.s [120]))], none⟩,
 ⟨(some 6), .call f_touchstonelaw13_link [(.c (.s [113]))], none⟩,
 ⟨(some 7), .bsl 4 [(.t 5), (.t 6)], none⟩,
 ⟨(some 8), .call f_touchstonelaw13_dir [(.t 4), (.t 7)], none⟩,
 ⟨(some 1), .alloc 25 [(.i .u8 0), (.s []), .nsl, .nsl], none⟩,
 ⟨none, .st 4 (.t 1) (.t 8), none⟩])
 (.seq (.seq (.regD [⟨(some 9), .ld true 4 (.t 1), none⟩,
 ⟨(some 10), .ld true 4 (.t 1), none⟩,
 ⟨(some 11), .bsl 1 [(.c (.s [99, 112])), (.c (.s [97])), (.c (.s [108]))], none⟩,
 ⟨(some 12), .callQ false f_touchstonelaw13_runs [(.t 9), (.c (.i .i64 1)), (.c (.s [99, 112, 58, 32, 108, 58, 32, 110, 111, 116, 32, 116, 104, 101, 114, 101, 10])), (.t 10), (.t 11)], none⟩,
 ⟨(some 13), .un .not (.t 12), none⟩,
 ⟨(some 14), .mv (.t 13), none⟩,
 ⟨(some 15), .ld true 4 (.t 1), (some (14, false))⟩,
 ⟨(some 16), .bsl 1 [(.c (.s [108]))], (some (14, false))⟩,
 ⟨(some 17), .callQ false f_touchstonelaw13_file [(.c (.s [120]))], (some (14, false))⟩,
 ⟨(some 18), .bsl 4 [(.t 17)], (some (14, false))⟩,
 ⟨(some 19), .callQ false f_touchstonelaw13_dir [(.t 16), (.t 18)], (some (14, false))⟩,
 ⟨(some 20), .bsl 1 [(.c (.s [109, 118])), (.c (.s [97])), (.c (.s [108]))], (some (14, false))⟩,
 ⟨(some 21), .callQ false f_touchstonelaw13_runs [(.t 15), (.c (.i .i64 0)), (.c (.s [])), (.t 19), (.t 20)], (some (14, false))⟩,
 ⟨(some 22), .un .not (.t 21), (some (14, false))⟩,
 ⟨(some 23), .pick (.t 14) (.c (.b true)) (.t 22), none⟩,
 ⟨(some 24), .mv (.t 23), none⟩,
 ⟨(some 25), .ld true 4 (.t 1), (some (24, false))⟩,
 ⟨(some 26), .ld true 4 (.t 1), (some (24, false))⟩,
 ⟨(some 27), .bsl 1 [(.c (.s [108, 110])), (.c (.s [45, 115])), (.c (.s [97])), (.c (.s [108]))], (some (24, false))⟩,
 ⟨(some 28), .callQ false f_touchstonelaw13_runs [(.t 25), (.c (.i .i64 1)), (.c (.s [108, 110, 58, 32, 97, 58, 32, 116, 104, 101, 114, 101, 32, 97, 108, 114, 101, 97, 100, 121, 10])), (.t 26), (.t 27)], (some (24, false))⟩,
 ⟨(some 29), .un .not (.t 28), (some (24, false))⟩,
 ⟨(some 30), .pick (.t 24) (.c (.b true)) (.t 29), none⟩] [(6, (6, 11))])
 (.cond (.t 30)
 (.seq (.reg [⟨(some 0), .mv (.c (.b false)), none⟩])
 .ret)
 .skip))
 (.seq (.reg [⟨(some 31), .bsl 1 [(.c (.s [97]))], none⟩,
 ⟨(some 32), .call f_touchstonelaw13_file [(.c (.s [121]))], none⟩,
 ⟨(some 33), .bsl 4 [(.t 32)], none⟩,
 ⟨(some 34), .call f_touchstonelaw13_dir [(.t 31), (.t 33)], none⟩,
 ⟨(some 2), .alloc 25 [(.i .u8 0), (.s []), .nsl, .nsl], none⟩,
 ⟨none, .st 4 (.t 2) (.t 34), none⟩])
 (.seq (.regD [⟨(some 35), .bsl 1 [(.c (.s [97])), (.c (.s [100])), (.c (.s [101])), (.c (.s [107])), (.c (.s [108]))], none⟩,
 ⟨(some 36), .callQ false f_touchstonelaw13_file [(.c (.s [120]))], none⟩,
 ⟨(some 37), .ld true 4 (.t 2), none⟩,
 ⟨(some 38), .callQ false f_touchstonelaw13_dir [(.c .nsl), (.c .nsl)], none⟩,
 ⟨(some 39), .callQ false f_touchstonelaw13_link [(.c (.s [97]))], none⟩,
 ⟨(some 40), .callQ false f_touchstonelaw13_link [(.c (.s [100]))], none⟩,
 ⟨(some 41), .bsl 4 [(.t 36), (.t 37), (.t 38), (.t 39), (.t 40)], none⟩,
 ⟨(some 42), .callQ false f_touchstonelaw13_dir [(.t 35), (.t 41)], none⟩,
 ⟨none, .mv (.c (.tup [])), none⟩,
 ⟨(some 3), .adp 25 [(.i .u8 0), (.s []), .nsl, .nsl] 4 (.t 42), none⟩] [(2, (1, 6))])
 (.seq (.regD [⟨(some 43), .ld true 4 (.t 3), none⟩,
 ⟨(some 44), .bsl 1 [(.c (.s [97])), (.c (.s [100])), (.c (.s [101])), (.c (.s [108])), (.c (.s [113]))], none⟩,
 ⟨(some 45), .callQ false f_touchstonelaw13_file [(.c (.s [120]))], none⟩,
 ⟨(some 46), .ld true 4 (.t 2), none⟩,
 ⟨(some 47), .callQ false f_touchstonelaw13_dir [(.c .nsl), (.c .nsl)], none⟩,
 ⟨(some 48), .callQ false f_touchstonelaw13_link [(.c (.s [100]))], none⟩,
 ⟨(some 49), .callQ false f_touchstonelaw13_link [(.c (.s [97]))], none⟩,
 ⟨(some 50), .bsl 4 [(.t 45), (.t 46), (.t 47), (.t 48), (.t 49)], none⟩,
 ⟨(some 51), .callQ false f_touchstonelaw13_dir [(.t 44), (.t 50)], none⟩,
 ⟨(some 52), .bsl 1 [(.c (.s [109, 118])), (.c (.s [107])), (.c (.s [113]))], none⟩,
 ⟨(some 53), .callQ false f_touchstonelaw13_runs [(.t 43), (.c (.i .i64 0)), (.c (.s [])), (.t 51), (.t 52)], none⟩,
 ⟨(some 54), .mv (.t 53), none⟩,
 ⟨(some 55), .ld true 4 (.t 3), (some (54, true))⟩,
 ⟨(some 56), .bsl 1 [(.c (.s [100])), (.c (.s [101])), (.c (.s [107])), (.c (.s [108]))], (some (54, true))⟩,
 ⟨(some 57), .ld true 4 (.t 2), (some (54, true))⟩,
 ⟨(some 58), .callQ false f_touchstonelaw13_dir [(.c .nsl), (.c .nsl)], (some (54, true))⟩,
 ⟨(some 59), .callQ false f_touchstonelaw13_file [(.c (.s [120]))], (some (54, true))⟩,
 ⟨(some 60), .callQ false f_touchstonelaw13_link [(.c (.s [100]))], (some (54, true))⟩,
 ⟨(some 61), .bsl 4 [(.t 57), (.t 58), (.t 59), (.t 60)], (some (54, true))⟩,
 ⟨(some 62), .callQ false f_touchstonelaw13_dir [(.t 56), (.t 61)], (some (54, true))⟩,
 ⟨(some 63), .bsl 1 [(.c (.s [109, 118])), (.c (.s [97])), (.c (.s [107]))], (some (54, true))⟩,
 ⟨(some 64), .callQ false f_touchstonelaw13_runs [(.t 55), (.c (.i .i64 0)), (.c (.s [])), (.t 62), (.t 63)], (some (54, true))⟩,
 ⟨(some 65), .pick (.t 54) (.t 64) (.c (.b false)), none⟩,
 ⟨(some 66), .mv (.t 65), none⟩,
 ⟨(some 67), .ld true 4 (.t 3), (some (66, true))⟩,
 ⟨(some 68), .bsl 1 [(.c (.s [97])), (.c (.s [100])), (.c (.s [101])), (.c (.s [107]))], (some (66, true))⟩,
 ⟨(some 69), .callQ false f_touchstonelaw13_file [(.c (.s [120]))], (some (66, true))⟩,
 ⟨(some 70), .bsl 1 [(.c (.s [97])), (.c (.s [108]))], (some (66, true))⟩,
 ⟨(some 71), .callQ false f_touchstonelaw13_file [(.c (.s [121]))], (some (66, true))⟩,
 ⟨(some 72), .callQ false f_touchstonelaw13_link [(.c (.s [100]))], (some (66, true))⟩,
 ⟨(some 73), .bsl 4 [(.t 71), (.t 72)], (some (66, true))⟩,
 ⟨(some 74), .callQ false f_touchstonelaw13_dir [(.t 70), (.t 73)], (some (66, true))⟩,
 ⟨(some 75), .callQ false f_touchstonelaw13_dir [(.c .nsl), (.c .nsl)], (some (66, true))⟩,
 ⟨(some 76), .callQ false f_touchstonelaw13_link [(.c (.s [97]))], (some (66, true))⟩,
 ⟨(some 77), .bsl 4 [(.t 69), (.t 74), (.t 75), (.t 76)], (some (66, true))⟩,
 ⟨(some 78), .callQ false f_touchstonelaw13_dir [(.t 68), (.t 77)], (some (66, true))⟩,
 ⟨(some 79), .bsl 1 [(.c (.s [109, 118])), (.c (.s [108])), (.c (.s [100]))], (some (66, true))⟩,
 ⟨(some 80), .callQ false f_touchstonelaw13_runs [(.t 67), (.c (.i .i64 0)), (.c (.s [])), (.t 78), (.t 79)], (some (66, true))⟩,
 ⟨(some 81), .pick (.t 66) (.t 80) (.c (.b false)), none⟩,
 ⟨(some 82), .mv (.t 81), none⟩,
 ⟨(some 83), .ld true 4 (.t 3), (some (82, true))⟩,
 ⟨(some 84), .bsl 1 [(.c (.s [100])), (.c (.s [101])), (.c (.s [107])), (.c (.s [108]))], (some (82, true))⟩,
 ⟨(some 85), .bsl 1 [(.c (.s [97]))], (some (82, true))⟩,
 ⟨(some 86), .callQ false f_touchstonelaw13_file [(.c (.s [120]))], (some (82, true))⟩,
 ⟨(some 87), .bsl 4 [(.t 86)], (some (82, true))⟩,
 ⟨(some 88), .callQ false f_touchstonelaw13_dir [(.t 85), (.t 87)], (some (82, true))⟩,
 ⟨(some 89), .callQ false f_touchstonelaw13_dir [(.c .nsl), (.c .nsl)], (some (82, true))⟩,
 ⟨(some 90), .callQ false f_touchstonelaw13_link [(.c (.s [97]))], (some (82, true))⟩,
 ⟨(some 91), .callQ false f_touchstonelaw13_link [(.c (.s [100]))], (some (82, true))⟩,
 ⟨(some 92), .bsl 4 [(.t 88), (.t 89), (.t 90), (.t 91)], (some (82, true))⟩,
 ⟨(some 93), .callQ false f_touchstonelaw13_dir [(.t 84), (.t 92)], (some (82, true))⟩,
 ⟨(some 94), .bsl 1 [(.c (.s [109, 118])), (.c (.s [45, 102])), (.c (.s [97])), (.c (.s [108]))], (some (82, true))⟩,
 ⟨(some 95), .callQ false f_touchstonelaw13_runs [(.t 83), (.c (.i .i64 0)), (.c (.s [])), (.t 93), (.t 94)], (some (82, true))⟩,
 ⟨(some 96), .pick (.t 82) (.t 95) (.c (.b false)), none⟩,
 ⟨(some 97), .mv (.t 96), none⟩,
 ⟨(some 98), .ld true 4 (.t 3), (some (97, true))⟩,
 ⟨(some 99), .bsl 1 [(.c (.s [97])), (.c (.s [100])), (.c (.s [107])), (.c (.s [108]))], (some (97, true))⟩,
 ⟨(some 100), .callQ false f_touchstonelaw13_file [(.c (.s [120]))], (some (97, true))⟩,
 ⟨(some 101), .ld true 4 (.t 2), (some (97, true))⟩,
 ⟨(some 102), .callQ false f_touchstonelaw13_link [(.c (.s [97]))], (some (97, true))⟩,
 ⟨(some 103), .callQ false f_touchstonelaw13_link [(.c (.s [100]))], (some (97, true))⟩,
 ⟨(some 104), .bsl 4 [(.t 100), (.t 101), (.t 102), (.t 103)], (some (97, true))⟩,
 ⟨(some 105), .callQ false f_touchstonelaw13_dir [(.t 99), (.t 104)], (some (97, true))⟩,
 ⟨(some 106), .bsl 1 [(.c (.s [109, 118])), (.c (.s [101])), (.c (.s [101, 50]))], (some (97, true))⟩,
 ⟨(some 107), .callQ false f_touchstonelaw13_runs [(.t 98), (.c (.i .i64 0)), (.c (.s [])), (.t 105), (.t 106)], (some (97, true))⟩,
 ⟨(some 108), .eq .bool false (.t 107) (.c (.b false)), (some (97, true))⟩,
 ⟨(some 109), .pick (.t 97) (.t 108) (.c (.b false)), none⟩,
 ⟨(some 110), .mv (.t 109), none⟩,
 ⟨(some 111), .ld true 4 (.t 3), (some (110, true))⟩,
 ⟨(some 112), .bsl 1 [(.c (.s [97])), (.c (.s [100])), (.c (.s [101])), (.c (.s [107])), (.c (.s [108]))], (some (110, true))⟩,
 ⟨(some 113), .callQ false f_touchstonelaw13_file [(.c (.s [120]))], (some (110, true))⟩,
 ⟨(some 114), .bsl 1 [(.c (.s [97]))], (some (110, true))⟩,
 ⟨(some 115), .callQ false f_touchstonelaw13_file [(.c (.s [120]))], (some (110, true))⟩,
 ⟨(some 116), .bsl 4 [(.t 115)], (some (110, true))⟩,
 ⟨(some 117), .callQ false f_touchstonelaw13_dir [(.t 114), (.t 116)], (some (110, true))⟩,
 ⟨(some 118), .callQ false f_touchstonelaw13_dir [(.c .nsl), (.c .nsl)], (some (110, true))⟩,
 ⟨(some 119), .callQ false f_touchstonelaw13_link [(.c (.s [97]))], (some (110, true))⟩,
 ⟨(some 120), .callQ false f_touchstonelaw13_link [(.c (.s [100]))], (some (110, true))⟩,
 ⟨(some 121), .bsl 4 [(.t 113), (.t 117), (.t 118), (.t 119), (.t 120)], (some (110, true))⟩,
 ⟨(some 122), .callQ false f_touchstonelaw13_dir [(.t 112), (.t 121)], (some (110, true))⟩,
 ⟨(some 123), .bsl 1 [(.c (.s [99, 112])), (.c (.s [97])), (.c (.s [100]))], (some (110, true))⟩,
 ⟨(some 124), .callQ false f_touchstonelaw13_runs [(.t 111), (.c (.i .i64 0)), (.c (.s [])), (.t 122), (.t 123)], (some (110, true))⟩,
 ⟨(some 125), .pick (.t 110) (.t 124) (.c (.b false)), none⟩,
 ⟨(some 126), .mv (.t 125), none⟩,
 ⟨(some 127), .ld true 4 (.t 3), (some (126, true))⟩,
 ⟨(some 128), .bsl 1 [(.c (.s [97])), (.c (.s [100])), (.c (.s [101])), (.c (.s [107])), (.c (.s [108]))], (some (126, true))⟩,
 ⟨(some 129), .callQ false f_touchstonelaw13_file [(.c (.s [120]))], (some (126, true))⟩,
 ⟨(some 130), .ld true 4 (.t 2), (some (126, true))⟩,
 ⟨(some 131), .bsl 1 [(.c (.s [107]))], (some (126, true))⟩,
 ⟨(some 132), .callQ false f_touchstonelaw13_link [(.c (.s [97]))], (some (126, true))⟩,
 ⟨(some 133), .bsl 4 [(.t 132)], (some (126, true))⟩,
 ⟨(some 134), .callQ false f_touchstonelaw13_dir [(.t 131), (.t 133)], (some (126, true))⟩,
 ⟨(some 135), .callQ false f_touchstonelaw13_link [(.c (.s [97]))], (some (126, true))⟩,
 ⟨(some 136), .callQ false f_touchstonelaw13_link [(.c (.s [100]))], (some (126, true))⟩,
 ⟨(some 137), .bsl 4 [(.t 129), (.t 130), (.t 134), (.t 135), (.t 136)], (some (126, true))⟩,
 ⟨(some 138), .callQ false f_touchstonelaw13_dir [(.t 128), (.t 137)], (some (126, true))⟩,
 ⟨(some 139), .bsl 1 [(.c (.s [99, 112])), (.c (.s [45, 114])), (.c (.s [107])), (.c (.s [101]))], (some (126, true))⟩,
 ⟨(some 140), .callQ false f_touchstonelaw13_runs [(.t 127), (.c (.i .i64 0)), (.c (.s [])), (.t 138), (.t 139)], (some (126, true))⟩,
 ⟨(some 141), .pick (.t 126) (.t 140) (.c (.b false)), none⟩,
 ⟨(some 142), .mv (.t 141), none⟩,
 ⟨(some 143), .ld true 4 (.t 3), (some (142, true))⟩,
 ⟨(some 144), .bsl 1 [(.c (.s [97])), (.c (.s [100])), (.c (.s [101])), (.c (.s [107])), (.c (.s [108]))], (some (142, true))⟩,
 ⟨(some 145), .callQ false f_touchstonelaw13_file [(.c (.s [120]))], (some (142, true))⟩,
 ⟨(some 146), .ld true 4 (.t 2), (some (142, true))⟩,
 ⟨(some 147), .bsl 1 [(.c (.s [100]))], (some (142, true))⟩,
 ⟨(some 148), .ld true 4 (.t 2), (some (142, true))⟩,
 ⟨(some 149), .bsl 4 [(.t 148)], (some (142, true))⟩,
 ⟨(some 150), .callQ false f_touchstonelaw13_dir [(.t 147), (.t 149)], (some (142, true))⟩,
 ⟨(some 151), .callQ false f_touchstonelaw13_link [(.c (.s [97]))], (some (142, true))⟩,
 ⟨(some 152), .callQ false f_touchstonelaw13_link [(.c (.s [100]))], (some (142, true))⟩,
 ⟨(some 153), .bsl 4 [(.t 145), (.t 146), (.t 150), (.t 151), (.t 152)], (some (142, true))⟩,
 ⟨(some 154), .callQ false f_touchstonelaw13_dir [(.t 144), (.t 153)], (some (142, true))⟩,
 ⟨(some 155), .bsl 1 [(.c (.s [99, 112])), (.c (.s [45, 114])), (.c (.s [100])), (.c (.s [101, 47]))], (some (142, true))⟩,
 ⟨(some 156), .callQ false f_touchstonelaw13_runs [(.t 143), (.c (.i .i64 0)), (.c (.s [])), (.t 154), (.t 155)], (some (142, true))⟩,
 ⟨(some 157), .pick (.t 142) (.t 156) (.c (.b false)), none⟩,
 ⟨(some 158), .mv (.t 157), none⟩,
 ⟨(some 159), .ld true 4 (.t 3), (some (158, true))⟩,
 ⟨(some 160), .bsl 1 [(.c (.s [97])), (.c (.s [100])), (.c (.s [101])), (.c (.s [107])), (.c (.s [108]))], (some (158, true))⟩,
 ⟨(some 161), .callQ false f_touchstonelaw13_file [(.c (.s [121]))], (some (158, true))⟩,
 ⟨(some 162), .ld true 4 (.t 2), (some (158, true))⟩,
 ⟨(some 163), .callQ false f_touchstonelaw13_dir [(.c .nsl), (.c .nsl)], (some (158, true))⟩,
 ⟨(some 164), .callQ false f_touchstonelaw13_link [(.c (.s [97]))], (some (158, true))⟩,
 ⟨(some 165), .callQ false f_touchstonelaw13_link [(.c (.s [100]))], (some (158, true))⟩,
 ⟨(some 166), .bsl 4 [(.t 161), (.t 162), (.t 163), (.t 164), (.t 165)], (some (158, true))⟩,
 ⟨(some 167), .callQ false f_touchstonelaw13_dir [(.t 160), (.t 166)], (some (158, true))⟩,
 ⟨(some 168), .bsl 1 [(.c (.s [99, 112])), (.c (.s [100, 47, 97])), (.c (.s [107]))], (some (158, true))⟩,
 ⟨(some 169), .callQ false f_touchstonelaw13_runs [(.t 159), (.c (.i .i64 0)), (.c (.s [])), (.t 167), (.t 168)], (some (158, true))⟩,
 ⟨(some 170), .pick (.t 158) (.t 169) (.c (.b false)), none⟩,
 ⟨(some 171), .mv (.t 170), none⟩,
 ⟨(some 172), .ld true 4 (.t 3), (some (171, true))⟩,
 ⟨(some 173), .bsl 1 [(.c (.s [97])), (.c (.s [100])), (.c (.s [101])), (.c (.s [107])), (.c (.s [108]))], (some (171, true))⟩,
 ⟨(some 174), .callQ false f_touchstonelaw13_file [(.c (.s [120]))], (some (171, true))⟩,
 ⟨(some 175), .ld true 4 (.t 2), (some (171, true))⟩,
 ⟨(some 176), .bsl 1 [(.c (.s [122]))], (some (171, true))⟩,
 ⟨(some 177), .callQ false f_touchstonelaw13_link [(.c (.s [120, 47, 122]))], (some (171, true))⟩,
 ⟨(some 178), .bsl 4 [(.t 177)], (some (171, true))⟩,
 ⟨(some 179), .callQ false f_touchstonelaw13_dir [(.t 176), (.t 178)], (some (171, true))⟩,
 ⟨(some 180), .callQ false f_touchstonelaw13_link [(.c (.s [97]))], (some (171, true))⟩,
 ⟨(some 181), .callQ false f_touchstonelaw13_link [(.c (.s [100]))], (some (171, true))⟩,
 ⟨(some 182), .bsl 4 [(.t 174), (.t 175), (.t 179), (.t 180), (.t 181)], (some (171, true))⟩,
 ⟨(some 183), .callQ false f_touchstonelaw13_dir [(.t 173), (.t 182)], (some (171, true))⟩,
 ⟨(some 184), .bsl 1 [(.c (.s [108, 110])), (.c (.s [45, 115])), (.c (.s [120, 47, 122])), (.c (.s [101]))], (some (171, true))⟩,
 ⟨(some 185), .callQ false f_touchstonelaw13_runs [(.t 172), (.c (.i .i64 0)), (.c (.s [])), (.t 183), (.t 184)], (some (171, true))⟩,
 ⟨(some 186), .pick (.t 171) (.t 185) (.c (.b false)), none⟩,
 ⟨(some 187), .mv (.t 186), none⟩,
 ⟨(some 188), .ld true 4 (.t 3), (some (187, true))⟩,
 ⟨(some 189), .bsl 1 [(.c (.s [97])), (.c (.s [100])), (.c (.s [101])), (.c (.s [107])), (.c (.s [108]))], (some (187, true))⟩,
 ⟨(some 190), .callQ false f_touchstonelaw13_file [(.c (.s [120]))], (some (187, true))⟩,
 ⟨(some 191), .ld true 4 (.t 2), (some (187, true))⟩,
 ⟨(some 192), .callQ false f_touchstonelaw13_dir [(.c .nsl), (.c .nsl)], (some (187, true))⟩,
 ⟨(some 193), .callQ false f_touchstonelaw13_link [(.c (.s [113]))], (some (187, true))⟩,
 ⟨(some 194), .callQ false f_touchstonelaw13_link [(.c (.s [100]))], (some (187, true))⟩,
 ⟨(some 195), .bsl 4 [(.t 190), (.t 191), (.t 192), (.t 193), (.t 194)], (some (187, true))⟩,
 ⟨(some 196), .callQ false f_touchstonelaw13_dir [(.t 189), (.t 195)], (some (187, true))⟩,
 ⟨(some 197), .bsl 1 [(.c (.s [108, 110])), (.c (.s [45, 115])), (.c (.s [45, 102])), (.c (.s [113])), (.c (.s [107]))], (some (187, true))⟩,
 ⟨(some 198), .callQ false f_touchstonelaw13_runs [(.t 188), (.c (.i .i64 0)), (.c (.s [])), (.t 196), (.t 197)], (some (187, true))⟩,
 ⟨(some 199), .pick (.t 187) (.t 198) (.c (.b false)), none⟩,
 ⟨(some 200), .mv (.t 199), none⟩,
 ⟨(some 201), .ld true 4 (.t 3), (some (200, true))⟩,
 ⟨(some 202), .bsl 1 [(.c (.s [100])), (.c (.s [107])), (.c (.s [108]))], (some (200, true))⟩,
 ⟨(some 203), .bsl 1 [(.c (.s [97])), (.c (.s [101]))], (some (200, true))⟩,
 ⟨(some 204), .callQ false f_touchstonelaw13_file [(.c (.s [120]))], (some (200, true))⟩,
 ⟨(some 205), .callQ false f_touchstonelaw13_dir [(.c .nsl), (.c .nsl)], (some (200, true))⟩,
 ⟨(some 206), .bsl 4 [(.t 204), (.t 205)], (some (200, true))⟩,
 ⟨(some 207), .callQ false f_touchstonelaw13_dir [(.t 203), (.t 206)], (some (200, true))⟩,
 ⟨(some 208), .callQ false f_touchstonelaw13_link [(.c (.s [97]))], (some (200, true))⟩,
 ⟨(some 209), .callQ false f_touchstonelaw13_link [(.c (.s [100]))], (some (200, true))⟩,
 ⟨(some 210), .bsl 4 [(.t 207), (.t 208), (.t 209)], (some (200, true))⟩,
 ⟨(some 211), .callQ false f_touchstonelaw13_dir [(.t 202), (.t 210)], (some (200, true))⟩,
 ⟨(some 212), .bsl 1 [(.c (.s [109, 118])), (.c (.s [97])), (.c (.s [113])), (.c (.s [101])), (.c (.s [100]))], (some (200, true))⟩,
 ⟨(some 213), .callQ false f_touchstonelaw13_runs [(.t 201), (.c (.i .i64 1)), (.c (.s [109, 118, 58, 32, 113, 58, 32, 110, 111, 116, 32, 116, 104, 101, 114, 101, 10])), (.t 211), (.t 212)], (some (200, true))⟩,
 ⟨(some 214), .pick (.t 200) (.t 213) (.c (.b false)), none⟩,
 ⟨(some 0), .mv (.t 214), none⟩] [(0, (0, 9)), (3, (2, 7)), (12, (12, 20)), (14, (14, 18)), (24, (24, 36)), (40, (40, 51)), (55, (55, 63)), (58, (57, 61)), (68, (68, 80)), (84, (84, 96)), (87, (86, 94)), (100, (100, 112)), (103, (102, 110)), (105, (102, 105)), (116, (116, 125)), (119, (118, 123)), (129, (129, 141)), (132, (131, 139)), (145, (145, 154)), (148, (147, 152)), (158, (158, 169))])
 .ret)))))) }
def c_ftree_Nodes : Fun := { cin := [(.agg [.id, .id, (.sl 1 .id), (.sl 4 (.agg [.id, .id, (.sl 1 .id), (.sl 4 (.agg [.id, .id, (.sl 1 .id), (.sl 4 .id)]))]))])], cout := [.id], ntmps := 19, keep := false, res := [(2, none)], body :=
 (.seq (.reg [⟨(some 1), .box 25 4 (.t 0), none⟩,
 ⟨(some 2), .mv (.c (.i .i64 0)), none⟩])
 (.seq (.reg [⟨(some 3), .mv (.c (.i .i64 1)), none⟩])
 (.seq (.seq (.reg [⟨(some 6), .fa 3 (.t 1), none⟩,
 ⟨(some 7), .ld false 1 (.t 6), none⟩,
 ⟨(some 8), .len 1 (.t 7), none⟩,
 ⟨(some 9), .mv (.c (.i .i64 0)), none⟩])
 (.blk 0 (.loop (.seq (.reg [⟨(some 10), .bin .lss (.t 9) (.t 8), none⟩])
 (.seq (.cond (.t 10)
 .skip
 (.exit 0))
 (.seq (.blk 1 (.seq (.reg [⟨(some 11), .ia 4 (.t 7) (.t 9), none⟩,
 ⟨(some 12), .ld true 4 (.t 11), none⟩,
 ⟨(some 5), .alloc 25 [(.i .u8 0), (.s []), .nsl, .nsl], none⟩,
 ⟨none, .st 4 (.t 5) (.t 12), none⟩])
 (.reg [⟨(some 13), .mv (.t 3), none⟩,
 ⟨(some 14), .ld true 4 (.t 5), none⟩,
 ⟨(some 15), .call f_ftree_Nodes [(.t 14)], none⟩,
 ⟨(some 16), .bin .add (.t 13) (.t 15), none⟩,
 ⟨(some 3), .mv (.t 16), none⟩])))
 (.reg [⟨(some 17), .bin .add (.t 9) (.c (.i .i64 1)), none⟩,
 ⟨(some 9), .mv (.t 17), none⟩])))))))
 (.seq (.reg [⟨(some 18), .mv (.t 3), none⟩,
 ⟨(some 2), .mv (.t 18), none⟩])
 .ret)))) }
def c_ftree_May : Fun := { cin := [(.agg [.id, .id, (.sl 1 .id), (.sl 4 (.agg [.id, .id, (.sl 1 .id), (.sl 4 (.agg [.id, .id, (.sl 1 .id), (.sl 4 .id)]))]))])], cout := [.id], ntmps := 20, keep := false, res := [(2, none)], body :=
 (.seq (.reg [⟨(some 1), .box 25 4 (.t 0), none⟩,
 ⟨(some 2), .mv (.c (.b false)), none⟩])
 (.seq (.reg [⟨(some 3), .fa 0 (.t 1), none⟩,
 ⟨(some 4), .ld false 1 (.t 3), none⟩,
 ⟨(some 5), .bin .eql (.t 4) (.c (.i .u8 2)), none⟩,
 ⟨(some 6), .mv (.t 5), none⟩,
 ⟨(some 7), .ld true 4 (.t 1), (some (6, true))⟩,
 ⟨(some 8), .call f_ftree_Well [(.t 7)], (some (6, true))⟩,
 ⟨(some 9), .pick (.t 6) (.t 8) (.c (.b false)), none⟩,
 ⟨(some 10), .mv (.t 9), none⟩,
 ⟨(some 11), .ld true 4 (.t 1), (some (10, true))⟩,
 ⟨(some 12), .call f_ftree_Nodes [(.t 11)], (some (10, true))⟩,
 ⟨(some 13), .bin .leq (.t 12) (.c (.i .i64 1024)), (some (10, true))⟩,
 ⟨(some 14), .pick (.t 10) (.t 13) (.c (.b false)), none⟩,
 ⟨(some 15), .mv (.t 14), none⟩,
 ⟨(some 16), .ld true 4 (.t 1), (some (15, true))⟩,
 ⟨(some 17), .call f_ftree_depth [(.t 16)], (some (15, true))⟩,
 ⟨(some 18), .bin .leq (.t 17) (.c (.i .i64 24)), (some (15, true))⟩,
 ⟨(some 19), .pick (.t 15) (.t 18) (.c (.b false)), none⟩,
 ⟨(some 2), .mv (.t 19), none⟩])
 .ret)) }
def c_ftree_own : Fun := { cin := [(.agg [.id, .id, (.sl 1 .id), (.sl 4 (.agg [.id, .id, (.sl 1 .id), (.sl 4 (.agg [.id, .id, (.sl 1 .id), (.sl 4 .id)]))]))])], cout := [(.agg [.id, .id, (.sl 1 .id), (.sl 4 (.agg [.id, .id, (.sl 1 .id), (.sl 4 (.agg [.id, .id, (.sl 1 .id), (.sl 4 .id)]))]))])], ntmps := 26, keep := false, res := [(2, some (true, 4))], body :=
 (.seq (.reg [⟨(some 1), .box 25 4 (.t 0), none⟩,
 ⟨(some 2), .alloc 25 [(.i .u8 0), (.s []), .nsl, .nsl], none⟩])
 (.seq (.reg [⟨(some 6), .fa 2 (.t 1), none⟩,
 ⟨(some 7), .ld false 1 (.t 6), none⟩,
 ⟨(some 8), .call f_slices_Clone_string_string [(.t 7)], none⟩,
 ⟨(some 9), .fa 2 (.t 1), none⟩,
 ⟨none, .st 1 (.t 9) (.t 8), none⟩])
 (.seq (.reg [⟨(some 3), .mv (.c .nsl), none⟩])
 (.seq (.seq (.reg [⟨(some 10), .fa 3 (.t 1), none⟩,
 ⟨(some 11), .ld false 1 (.t 10), none⟩,
 ⟨(some 12), .len 1 (.t 11), none⟩,
 ⟨(some 13), .mv (.c (.i .i64 0)), none⟩])
 (.blk 0 (.loop (.seq (.reg [⟨(some 14), .bin .lss (.t 13) (.t 12), none⟩])
 (.seq (.cond (.t 14)
 .skip
 (.exit 0))
 (.seq (.blk 1 (.seq (.reg [⟨(some 15), .ia 4 (.t 11) (.t 13), none⟩,
 ⟨(some 16), .ld true 4 (.t 15), none⟩,
 ⟨(some 5), .alloc 25 [(.i .u8 0), (.s []), .nsl, .nsl], none⟩,
 ⟨none, .st 4 (.t 5) (.t 16), none⟩])
 (.reg [⟨(some 17), .mv (.t 3), none⟩,
 ⟨(some 18), .ld true 4 (.t 5), none⟩,
 ⟨(some 19), .call f_ftree_own [(.t 18)], none⟩,
 ⟨(some 20), .bsl 4 [(.t 19)], none⟩,
 ⟨(some 21), .app 4 25 (.t 17) (.t 20), none⟩,
 ⟨(some 3), .mv (.t 21), none⟩])))
 (.reg [⟨(some 22), .bin .add (.t 13) (.c (.i .i64 1)), none⟩,
 ⟨(some 13), .mv (.t 22), none⟩])))))))
 (.seq (.reg [⟨(some 23), .mv (.t 3), none⟩,
 ⟨(some 24), .fa 3 (.t 1), none⟩,
 ⟨none, .st 1 (.t 24) (.t 23), none⟩])
 (.seq (.reg [⟨(some 25), .ld true 4 (.t 1), none⟩,
 ⟨none, .st 4 (.t 2) (.t 25), none⟩])
 .ret)))))) }
def c_opts_Parse : Fun := { cin := [.id, (.sl 1 .id), .id, .id], cout := [(.agg [.id, (.sl 1 .id)]), .id], ntmps := 111, keep := false, res := [(8, some (true, 2)), (9, none)], body :=
 (.seq (.reg [⟨(some 8), .alloc 108 [(.s []), .nsl], none⟩,
 ⟨(some 9), .mv (.c (.i .i64 0)), none⟩])
 (.seq (.reg [⟨(some 18), .mv (.t 2), none⟩,
 ⟨(some 19), .bin .lss (.t 18) (.c (.i .i64 0)), none⟩,
 ⟨(some 20), .mv (.t 19), none⟩,
 ⟨(some 21), .mv (.t 3), (some (20, false))⟩,
 ⟨(some 22), .mv (.t 2), (some (20, false))⟩,
 ⟨(some 23), .bin .lss (.t 21) (.t 22), (some (20, false))⟩,
 ⟨(some 24), .pick (.t 20) (.c (.b true)) (.t 23), none⟩,
 ⟨(some 10), .mv (.t 24), none⟩])
 (.seq (.seq (.reg [⟨(some 25), .mv (.t 0), none⟩,
 ⟨(some 26), .len 0 (.t 25), none⟩,
 ⟨(some 27), .mv (.c (.i .i64 0)), none⟩])
 (.blk 0 (.loop (.seq (.reg [⟨(some 28), .bin .lss (.t 27) (.t 26), none⟩])
 (.seq (.cond (.t 28)
 .skip
 (.exit 0))
 (.seq (.blk 1 (.seq (.reg [⟨(some 29), .mv (.t 27), none⟩,
 ⟨(some 11), .mv (.t 29), none⟩])
 (.reg [⟨(some 30), .mv (.t 10), none⟩,
 ⟨(some 31), .mv (.t 30), none⟩,
 ⟨(some 32), .mv (.t 0), (some (31, false))⟩,
 ⟨(some 33), .mv (.t 11), (some (31, false))⟩,
 ⟨(some 34), .ixS (.t 32) (.t 33), (some (31, false))⟩,
 ⟨(some 35), .call f_opts_letter [(.t 34)], (some (31, false))⟩,
 ⟨(some 36), .un .not (.t 35), (some (31, false))⟩,
 ⟨(some 37), .pick (.t 31) (.c (.b true)) (.t 36), none⟩,
 ⟨(some 10), .mv (.t 37), none⟩])))
 (.reg [⟨(some 38), .bin .add (.t 27) (.c (.i .i64 1)), none⟩,
 ⟨(some 27), .mv (.t 38), none⟩])))))))
 (.seq (.seq (.reg [⟨(some 39), .mv (.t 10), none⟩])
 (.cond (.t 39)
 (.seq (.reg [⟨(some 40), .build [(.s []), .nsl] [], none⟩,
 ⟨none, .st 2 (.t 8) (.t 40), none⟩,
 ⟨(some 9), .mv (.c (.i .i64 1)), none⟩])
 .ret)
 .skip))
 (.seq (.reg [⟨(some 12), .alloc 177 [(.b false), (.b false), (.b false), (.b false), (.b false), (.b false), (.b false), (.b false), (.b false), (.b false), (.b false), (.b false), (.b false), (.b false), (.b false), (.b false), (.b false), (.b false), (.b false), (.b false), (.b false), (.b false), (.b false), (.b false), (.b false), (.b false), (.b false), (.b false), (.b false), (.b false), (.b false), (.b false), (.b false), (.b false), (.b false), (.b false), (.b false), (.b false), (.b false), (.b false), (.b false), (.b false), (.b false), (.b false), (.b false), (.b false), (.b false), (.b false), (.b false), (.b false), (.b false), (.b false), (.b false), (.b false), (.b false), (.b false), (.b false), (.b false), (.b false), (.b false), (.b false), (.b false), (.b false), (.b false), (.b false), (.b false), (.b false), (.b false), (.b false), (.b false), (.b false), (.b false), (.b false), (.b false), (.b false), (.b false), (.b false), (.b false), (.b false), (.b false), (.b false), (.b false), (.b false), (.b false), (.b false), (.b false), (.b false), (.b false), (.b false), (.b false), (.b false), (.b false), (.b false), (.b false), (.b false), (.b false), (.b false), (.b false), (.b false), (.b false), (.b false), (.b false), (.b false), (.b false), (.b false), (.b false), (.b false), (.b false), (.b false), (.b false), (.b false), (.b false), (.b false), (.b false), (.b false), (.b false), (.b false), (.b false), (.b false), (.b false), (.b false), (.b false), (.b false), (.b false), (.b false), (.b false), (.b false), (.b false), (.b false), (.b false), (.b false), (.b false), (.b false), (.b false), (.b false), (.b false), (.b false), (.b false), (.b false), (.b false), (.b false), (.b false), (.b false), (.b false), (.b false), (.b false), (.b false), (.b false), (.b false), (.b false), (.b false), (.b false), (.b false), (.b false), (.b false), (.b false), (.b false), (.b false), (.b false), (.b false), (.b false), (.b false), (.b false), (.b false), (.b false), (.b false), (.b false), (.b false), (.b false), (.b false), (.b false), (.b false), (.b false), (.b false), (.b false), (.b false), (.b false), (.b false), (.b false), (.b false), (.b false), (.b false), (.b false), (.b false), (.b false), (.b false), (.b false), (.b false), (.b false), (.b false), (.b false), (.b false), (.b false), (.b false), (.b false), (.b false), (.b false), (.b false), (.b false), (.b false), (.b false), (.b false), (.b false), (.b false), (.b false), (.b false), (.b false), (.b false), (.b false), (.b false), (.b false), (.b false), (.b false), (.b false), (.b false), (.b false), (.b false), (.b false), (.b false), (.b false), (.b false), (.b false), (.b false), (.b false), (.b false), (.b false), (.b false), (.b false), (.b false), (.b false), (.b false), (.b false), (.b false), (.b false), (.b false), (.b false), (.b false), (.b false), (.b false), (.b false), (.b false), (.b false), (.b false), (.b false), (.b false), (.b false), (.b false), (.b false), (.b false), (.b false), (.b false), (.b false), (.b false), (.b false), (.b false), (.b false)], none⟩])
 (.seq (.blk 2 (.loop (.seq (.seq (.reg [⟨(some 41), .mv (.t 1), none⟩,
 ⟨(some 42), .len 1 (.t 41), none⟩,
 ⟨(some 43), .bin .gtr (.t 42) (.c (.i .i64 0)), none⟩,
 ⟨(some 44), .mv (.t 43), none⟩,
 ⟨(some 45), .mv (.t 1), (some (44, true))⟩,
 ⟨(some 46), .ia 1 (.t 45) (.c (.i .i64 0)), (some (44, true))⟩,
 ⟨(some 47), .ld false 1 (.t 46), (some (44, true))⟩,
 ⟨(some 48), .len 0 (.t 47), (some (44, true))⟩,
 ⟨(some 49), .bin .gtr (.t 48) (.c (.i .i64 1)), (some (44, true))⟩,
 ⟨(some 50), .pick (.t 44) (.t 49) (.c (.b false)), none⟩,
 ⟨(some 51), .mv (.t 50), none⟩,
 ⟨(some 52), .mv (.t 1), (some (51, true))⟩,
 ⟨(some 53), .ia 1 (.t 52) (.c (.i .i64 0)), (some (51, true))⟩,
 ⟨(some 54), .ld false 1 (.t 53), (some (51, true))⟩,
 ⟨(some 55), .ixS (.t 54) (.c (.i .i64 0)), (some (51, true))⟩,
 ⟨(some 56), .bin .eql (.t 55) (.c (.i .u8 45)), (some (51, true))⟩,
 ⟨(some 57), .pick (.t 51) (.t 56) (.c (.b false)), none⟩])
 (.cond (.t 57)
 .skip
 (.exit 2)))
 (.blk 3 (.seq (.reg [⟨(some 58), .mv (.t 1), none⟩,
 ⟨(some 59), .ia 1 (.t 58) (.c (.i .i64 0)), none⟩,
 ⟨(some 60), .ld false 1 (.t 59), none⟩,
 ⟨(some 61), .slS (.t 60) (some (.c (.i .i64 1))) none, none⟩,
 ⟨(some 13), .mv (.t 61), none⟩])
 (.seq (.reg [⟨(some 62), .mv (.t 1), none⟩,
 ⟨(some 63), .slc false 1 (.t 62) (some (.c (.i .i64 1))) none none, none⟩,
 ⟨(some 1), .mv (.t 63), none⟩])
 (.seq (.seq (.reg [⟨(some 64), .mv (.t 13), none⟩,
 ⟨(some 65), .bin .eql (.t 64) (.c (.s [45])), none⟩])
 (.cond (.t 65)
 (.exit 2)
 .skip))
 (.seq (.reg [⟨(some 66), .mv (.t 13), none⟩,
 ⟨(some 67), .len 0 (.t 66), none⟩,
 ⟨(some 68), .mv (.c (.i .i64 0)), none⟩])
 (.blk 4 (.loop (.seq (.reg [⟨(some 69), .bin .lss (.t 68) (.t 67), none⟩])
 (.seq (.cond (.t 69)
 .skip
 (.exit 4))
 (.seq (.blk 5 (.seq (.reg [⟨(some 70), .mv (.t 68), none⟩,
 ⟨(some 14), .mv (.t 70), none⟩])
 (.seq (.seq (.reg [⟨(some 71), .mv (.t 0), none⟩,
 ⟨(some 72), .mv (.t 13), none⟩,
 ⟨(some 73), .mv (.t 14), none⟩,
 ⟨(some 74), .ixS (.t 72) (.t 73), none⟩,
 ⟨(some 75), .call f_strings_IndexByte [(.t 71), (.t 74)], none⟩,
 ⟨(some 76), .bin .lss (.t 75) (.c (.i .i64 0)), none⟩])
 (.cond (.t 76)
 (.seq (.reg [⟨(some 77), .build [(.s []), .nsl] [], none⟩,
 ⟨none, .st 2 (.t 8) (.t 77), none⟩,
 ⟨(some 9), .mv (.c (.i .i64 62)), none⟩])
 .ret)
 .skip))
 (.reg [⟨(some 78), .mv (.t 13), none⟩,
 ⟨(some 79), .mv (.t 14), none⟩,
 ⟨(some 80), .ixS (.t 78) (.t 79), none⟩,
 ⟨(some 81), .iaA 256 1 (.t 12) (.t 80), none⟩,
 ⟨none, .st 1 (.t 81) (.c (.b true)), none⟩]))))
 (.reg [⟨(some 82), .bin .add (.t 68) (.c (.i .i64 1)), none⟩,
 ⟨(some 68), .mv (.t 82), none⟩]))))))))))))))
 (.seq (.seq (.reg [⟨(some 83), .mv (.t 1), none⟩,
 ⟨(some 84), .len 1 (.t 83), none⟩,
 ⟨(some 85), .mv (.t 2), none⟩,
 ⟨(some 86), .bin .lss (.t 84) (.t 85), none⟩,
 ⟨(some 87), .mv (.t 86), none⟩,
 ⟨(some 88), .mv (.t 1), (some (87, false))⟩,
 ⟨(some 89), .len 1 (.t 88), (some (87, false))⟩,
 ⟨(some 90), .mv (.t 3), (some (87, false))⟩,
 ⟨(some 91), .bin .gtr (.t 89) (.t 90), (some (87, false))⟩,
 ⟨(some 92), .pick (.t 87) (.c (.b true)) (.t 91), none⟩])
 (.cond (.t 92)
 (.seq (.reg [⟨(some 93), .build [(.s []), .nsl] [], none⟩,
 ⟨none, .st 2 (.t 8) (.t 93), none⟩,
 ⟨(some 9), .mv (.c (.i .i64 62)), none⟩])
 .ret)
 .skip))
 (.seq (.reg [⟨(some 15), .mv (.c .nsl), none⟩])
 (.seq (.seq (.reg [⟨(some 94), .ld true 256 (.t 12), none⟩,
 ⟨(some 95), .mv (.c (.i .i64 0)), none⟩])
 (.blk 6 (.loop (.seq (.reg [⟨(some 96), .bin .lss (.t 95) (.c (.i .i64 256)), none⟩])
 (.seq (.cond (.t 96)
 .skip
 (.exit 6))
 (.seq (.blk 7 (.seq (.reg [⟨(some 97), .mv (.t 95), none⟩,
 ⟨(some 98), .ixA 256 1 false (.t 94) (.t 95), none⟩,
 ⟨(some 16), .mv (.t 97), none⟩,
 ⟨(some 17), .mv (.t 98), none⟩])
 (.seq (.reg [⟨(some 99), .mv (.t 17), none⟩])
 (.cond (.t 99)
 (.reg [⟨(some 100), .mv (.t 15), none⟩,
 ⟨(some 101), .mv (.t 16), none⟩,
 ⟨(some 102), .cvI .u8 (.t 101), none⟩,
 ⟨(some 103), .bsl 1 [(.t 102)], none⟩,
 ⟨(some 104), .app 1 5 (.t 100) (.t 103), none⟩,
 ⟨(some 15), .mv (.t 104), none⟩])
 .skip))))
 (.reg [⟨(some 105), .bin .add (.t 95) (.c (.i .i64 1)), none⟩,
 ⟨(some 95), .mv (.t 105), none⟩])))))))
 (.seq (.regD [⟨(some 106), .mv (.t 15), none⟩,
 ⟨(some 107), .cvBS (.t 106), none⟩,
 ⟨(some 108), .mv (.t 1), none⟩,
 ⟨(some 109), .callQ false f_slices_Clone_string_string [(.t 108)], none⟩,
 ⟨(some 110), .build [(.s []), .nsl] [(0, 1, (.t 107)), (1, 1, (.t 109))], none⟩,
 ⟨none, .st 2 (.t 8) (.t 110), none⟩,
 ⟨(some 9), .mv (.c (.i .i64 0)), none⟩] [(1, (1, 4))])
 .ret)))))))))) }
def c_strings_IndexByte : Fun := { cin := [.id, .id], cout := [.id], ntmps := 8, keep := false, res := [(4, none)], body :=
 (.seq (.reg [⟨(some 4), .mv (.c (.i .i64 0)), none⟩])
 (.seq (.reg [⟨(some 5), .mv (.t 0), none⟩,
 ⟨(some 6), .mv (.t 1), none⟩,
 ⟨(some 7), .call f_internal_stringslite_IndexByte [(.t 5), (.t 6)], none⟩,
 ⟨(some 4), .mv (.t 7), none⟩])
 .ret)) }
def c_path_Name : Fun := { cin := [.id], cout := [.id], ntmps := 23, keep := false, res := [(2, none)], body :=
 (.seq (.reg [⟨(some 2), .mv (.c (.b false)), none⟩])
 (.seq (.reg [⟨(some 3), .mv (.t 0), none⟩,
 ⟨(some 4), .bin .neq (.t 3) (.c (.s [])), none⟩,
 ⟨(some 5), .mv (.t 4), none⟩,
 ⟨(some 6), .mv (.t 0), (some (5, true))⟩,
 ⟨(some 7), .len 0 (.t 6), (some (5, true))⟩,
 ⟨(some 8), .bin .leq (.t 7) (.c (.i .i64 64)), (some (5, true))⟩,
 ⟨(some 9), .pick (.t 5) (.t 8) (.c (.b false)), none⟩,
 ⟨(some 10), .mv (.t 9), none⟩,
 ⟨(some 11), .mv (.t 0), (some (10, true))⟩,
 ⟨(some 12), .bin .neq (.t 11) (.c (.s [46])), (some (10, true))⟩,
 ⟨(some 13), .pick (.t 10) (.t 12) (.c (.b false)), none⟩,
 ⟨(some 14), .mv (.t 13), none⟩,
 ⟨(some 15), .mv (.t 0), (some (14, true))⟩,
 ⟨(some 16), .bin .neq (.t 15) (.c (.s [46, 46])), (some (14, true))⟩,
 ⟨(some 17), .pick (.t 14) (.t 16) (.c (.b false)), none⟩,
 ⟨(some 18), .mv (.t 17), none⟩,
 ⟨(some 19), .mv (.t 0), (some (18, true))⟩,
 ⟨(some 20), .call f_strings_ContainsAny [(.t 19), (.c (.s [47, 0, 10]))], (some (18, true))⟩,
 ⟨(some 21), .un .not (.t 20), (some (18, true))⟩,
 ⟨(some 22), .pick (.t 18) (.t 21) (.c (.b false)), none⟩,
 ⟨(some 2), .mv (.t 22), none⟩])
 .ret)) }
def c_ftree_Tree_at : Fun := { cin := [.id, (.sl 1 .id)], cout := [(.agg [.id, .id, (.sl 1 .id), (.sl 4 (.agg [.id, .id, (.sl 1 .id), (.sl 4 (.agg [.id, .id, (.sl 1 .id), (.sl 4 .id)]))]))])], ntmps := 20, keep := false, res := [(4, some (true, 4))], body :=
 (.seq (.reg [⟨(some 4), .alloc 25 [(.i .u8 0), (.s []), .nsl, .nsl], none⟩])
 (.seq (.seq (.reg [⟨(some 7), .mv (.t 0), none⟩,
 ⟨(some 8), .eq .ptr false (.t 7) (.c .np), none⟩])
 (.cond (.t 8)
 (.seq (.reg [⟨(some 9), .build [(.i .u8 0), (.s []), .nsl, .nsl] [], none⟩,
 ⟨none, .st 4 (.t 4) (.t 9), none⟩])
 .ret)
 .skip))
 (.seq (.reg [⟨(some 11), .mv (.t 0), none⟩,
 ⟨(some 12), .nck (.t 11), none⟩,
 ⟨(some 13), .fa 0 (.t 12), none⟩,
 ⟨(some 14), .ld true 4 (.t 13), none⟩,
 ⟨(some 15), .mv (.t 1), none⟩,
 ⟨(some 16), .call f_ftree_find [(.t 14), (.t 15)], none⟩,
 ⟨(some 10), .mv (.t 16), none⟩,
 ⟨(some 17), .ext (.t 10) 0, none⟩,
 ⟨(some 18), .ext (.t 10) 1, none⟩,
 ⟨(some 5), .alloc 25 [(.i .u8 0), (.s []), .nsl, .nsl], none⟩,
 ⟨none, .st 4 (.t 5) (.t 17), none⟩,
 ⟨(some 6), .mv (.t 18), none⟩])
 (.seq (.reg [⟨(some 19), .ld true 4 (.t 5), none⟩,
 ⟨none, .st 4 (.t 4) (.t 19), none⟩])
 .ret)))) }
def c_walk_walk : Fun := { cin := [.id, .id, .id], cout := [(.sl 1 .id), .id, .id], ntmps := 34, keep := false, res := [(6, none), (7, none), (8, none)], body :=
 (.seq (.reg [⟨(some 6), .mv (.c .nsl), none⟩,
 ⟨(some 7), .mv (.c (.i .u8 0)), none⟩,
 ⟨(some 8), .mv (.c (.i .i64 0)), none⟩])
 (.seq (.seq (.reg [⟨(some 13), .mv (.t 0), none⟩,
 ⟨(some 14), .eq .ifc false (.t 13) (.c .ni), none⟩])
 (.cond (.t 14)
 (.seq (.reg [⟨(some 6), .mv (.c .nsl), none⟩,
 ⟨(some 7), .mv (.c (.i .u8 0)), none⟩,
 ⟨(some 8), .mv (.c (.i .i64 2)), none⟩])
 .ret)
 .skip))
 (.seq (.reg [⟨(some 15), .mv (.t 0), none⟩,
 ⟨(some 16), .mv (.t 1), none⟩,
 ⟨(some 17), .call f_path_Steps [(.t 16)], none⟩,
 ⟨(some 18), .mv (.t 1), none⟩,
 ⟨(some 19), .call f_path_Dir [(.t 18)], none⟩,
 ⟨(some 20), .mv (.t 2), none⟩,
 ⟨(some 21), .build [.ni, .nsl, .nsl, (.b false), (.b false), (.i .i64 0)] [(0, 1, (.t 15)), (2, 1, (.t 17)), (3, 1, (.t 19)), (4, 1, (.t 20))], none⟩,
 ⟨(some 22), .box 181 6 (.t 21), none⟩,
 ⟨(some 9), .mv (.t 22), none⟩])
 (.seq (.reg [⟨(some 24), .mv (.t 9), none⟩,
 ⟨(some 25), .call f_walk_walker_run [(.t 24)], none⟩,
 ⟨(some 23), .mv (.t 25), none⟩,
 ⟨(some 26), .ext (.t 23) 0, none⟩,
 ⟨(some 27), .ext (.t 23) 1, none⟩,
 ⟨(some 28), .ext (.t 23) 2, none⟩,
 ⟨(some 10), .mv (.t 26), none⟩,
 ⟨(some 11), .mv (.t 27), none⟩,
 ⟨(some 12), .mv (.t 28), none⟩])
 (.seq (.reg [⟨(some 29), .bsl 1 [], none⟩,
 ⟨(some 30), .mv (.t 10), none⟩,
 ⟨(some 31), .app 1 9 (.t 29) (.t 30), none⟩,
 ⟨(some 32), .mv (.t 11), none⟩,
 ⟨(some 33), .mv (.t 12), none⟩,
 ⟨(some 6), .mv (.t 31), none⟩,
 ⟨(some 7), .mv (.t 32), none⟩,
 ⟨(some 8), .mv (.t 33), none⟩])
 .ret))))) }
def c_strings_Contains : Fun := { cin := [.id, .id], cout := [.id], ntmps := 9, keep := false, res := [(4, none)], body :=
 (.seq (.reg [⟨(some 4), .mv (.c (.b false)), none⟩])
 (.seq (.reg [⟨(some 5), .mv (.t 0), none⟩,
 ⟨(some 6), .mv (.t 1), none⟩,
 ⟨(some 7), .call f_strings_Index [(.t 5), (.t 6)], none⟩,
 ⟨(some 8), .bin .geq (.t 7) (.c (.i .i64 0)), none⟩,
 ⟨(some 4), .mv (.t 8), none⟩])
 .ret)) }
def c_path_steps : Fun := { cin := [.id], cout := [.id], ntmps := 4, keep := false, res := [(2, none)], body :=
 (.seq (.reg [⟨(some 1), .box 9 1 (.t 0), none⟩,
 ⟨(some 2), .mv (.c .nf), none⟩])
 (.seq (.reg [⟨(some 3), .mkf f_path_steps_1 [(.t 1)], none⟩,
 ⟨(some 2), .mv (.t 3), none⟩])
 .ret)) }
def c_strings_Join : Fun := { cin := [(.sl 1 .id), .id], cout := [.id], ntmps := 75, keep := false, res := [(4, none)], body :=
 (.seq (.reg [⟨(some 4), .mv (.c (.s [])), none⟩])
 (.seq (.seq (.reg [⟨(some 11), .mv (.t 0), none⟩,
 ⟨(some 12), .len 1 (.t 11), none⟩])
 (.blk 0 (.seq (.reg [⟨(some 14), .bin .eql (.t 12) (.c (.i .i64 0)), none⟩,
 ⟨(some 13), .mv (.t 14), none⟩])
 (.cond (.t 13)
 (.seq (.reg [⟨(some 4), .mv (.c (.s [])), none⟩])
 .ret)
 (.seq (.reg [⟨(some 16), .bin .eql (.t 12) (.c (.i .i64 1)), none⟩,
 ⟨(some 15), .mv (.t 16), none⟩])
 (.cond (.t 15)
 (.seq (.reg [⟨(some 17), .mv (.t 0), none⟩,
 ⟨(some 18), .ia 1 (.t 17) (.c (.i .i64 0)), none⟩,
 ⟨(some 19), .ld false 1 (.t 18), none⟩,
 ⟨(some 4), .mv (.t 19), none⟩])
 .ret)
 .skip))))))
 (.seq (.reg [⟨(some 5), .mv (.c (.i .i64 0)), none⟩])
 (.seq (.seq (.reg [⟨(some 20), .mv (.t 1), none⟩,
 ⟨(some 21), .len 0 (.t 20), none⟩,
 ⟨(some 22), .bin .gtr (.t 21) (.c (.i .i64 0)), none⟩])
 (.cond (.t 22)
 (.seq (.seq (.reg [⟨(some 23), .mv (.t 1), none⟩,
 ⟨(some 24), .len 0 (.t 23), none⟩,
 ⟨(some 25), .mv (.t 0), none⟩,
 ⟨(some 26), .len 1 (.t 25), none⟩,
 ⟨(some 27), .bin .sub (.t 26) (.c (.i .i64 1)), none⟩,
 ⟨(some 28), .bin .quo (.c (.i .i64 9223372036854775807)) (.t 27), none⟩,
 ⟨(some 29), .bin .geq (.t 24) (.t 28), none⟩])
 (.cond (.t 29)
 (.reg [⟨(some 30), .mki 9 (.c (.s [115, 116, 114, 105, 110, 103, 115, 58, 32, 74, 111, 105, 110, 32, 111, 117, 116, 112, 117, 116, 32, 108, 101, 110, 103, 116, 104, 32, 111, 118, 101, 114, 102, 108, 111, 119])), none⟩,
 ⟨none, .bad, none⟩])
 .skip))
 (.reg [⟨(some 31), .mv (.t 5), none⟩,
 ⟨(some 32), .mv (.t 1), none⟩,
 ⟨(some 33), .len 0 (.t 32), none⟩,
 ⟨(some 34), .mv (.t 0), none⟩,
 ⟨(some 35), .len 1 (.t 34), none⟩,
 ⟨(some 36), .bin .sub (.t 35) (.c (.i .i64 1)), none⟩,
 ⟨(some 37), .bin .mul (.t 33) (.t 36), none⟩,
 ⟨(some 38), .bin .add (.t 31) (.t 37), none⟩,
 ⟨(some 5), .mv (.t 38), none⟩]))
 .skip))
 (.seq (.seq (.reg [⟨(some 39), .mv (.t 0), none⟩,
 ⟨(some 40), .len 1 (.t 39), none⟩,
 ⟨(some 41), .mv (.c (.i .i64 0)), none⟩])
 (.blk 1 (.loop (.seq (.reg [⟨(some 42), .bin .lss (.t 41) (.t 40), none⟩])
 (.seq (.cond (.t 42)
 .skip
 (.exit 1))
 (.seq (.blk 2 (.seq (.reg [⟨(some 43), .ia 1 (.t 39) (.t 41), none⟩,
 ⟨(some 44), .ld false 1 (.t 43), none⟩,
 ⟨(some 7), .mv (.t 44), none⟩])
 (.seq (.seq (.reg [⟨(some 45), .mv (.t 7), none⟩,
 ⟨(some 46), .len 0 (.t 45), none⟩,
 ⟨(some 47), .mv (.t 5), none⟩,
 ⟨(some 48), .bin .sub (.c (.i .i64 9223372036854775807)) (.t 47), none⟩,
 ⟨(some 49), .bin .gtr (.t 46) (.t 48), none⟩])
 (.cond (.t 49)
 (.reg [⟨(some 50), .mki 9 (.c (.s [115, 116, 114, 105, 110, 103, 115, 58, 32, 74, 111, 105, 110, 32, 111, 117, 116, 112, 117, 116, 32, 108, 101, 110, 103, 116, 104, 32, 111, 118, 101, 114, 102, 108, 111, 119])), none⟩,
 ⟨none, .bad, none⟩])
 .skip))
 (.reg [⟨(some 51), .mv (.t 5), none⟩,
 ⟨(some 52), .mv (.t 7), none⟩,
 ⟨(some 53), .len 0 (.t 52), none⟩,
 ⟨(some 54), .bin .add (.t 51) (.t 53), none⟩,
 ⟨(some 5), .mv (.t 54), none⟩]))))
 (.reg [⟨(some 55), .bin .add (.t 41) (.c (.i .i64 1)), none⟩,
 ⟨(some 41), .mv (.t 55), none⟩])))))))
 (.seq (.reg [⟨(some 8), .alloc 187 [.np, .nsl], none⟩])
 (.seq (.reg [⟨(some 56), .mv (.t 5), none⟩,
 ⟨(some 57), .call f_strings_Builder_Grow [(.t 8), (.t 56)], none⟩])
 (.seq (.reg [⟨(some 58), .mv (.t 0), none⟩,
 ⟨(some 59), .ia 1 (.t 58) (.c (.i .i64 0)), none⟩,
 ⟨(some 60), .ld false 1 (.t 59), none⟩,
 ⟨(some 61), .call f_strings_Builder_WriteString [(.t 8), (.t 60)], none⟩])
 (.seq (.seq (.reg [⟨(some 62), .mv (.t 0), none⟩,
 ⟨(some 63), .slc false 1 (.t 62) (some (.c (.i .i64 1))) none none, none⟩,
 ⟨(some 64), .len 1 (.t 63), none⟩,
 ⟨(some 65), .mv (.c (.i .i64 0)), none⟩])
 (.blk 3 (.loop (.seq (.reg [⟨(some 66), .bin .lss (.t 65) (.t 64), none⟩])
 (.seq (.cond (.t 66)
 .skip
 (.exit 3))
 (.seq (.blk 4 (.seq (.reg [⟨(some 67), .ia 1 (.t 63) (.t 65), none⟩,
 ⟨(some 68), .ld false 1 (.t 67), none⟩,
 ⟨(some 10), .mv (.t 68), none⟩])
 (.seq (.reg [⟨(some 69), .mv (.t 1), none⟩,
 ⟨(some 70), .call f_strings_Builder_WriteString [(.t 8), (.t 69)], none⟩])
 (.reg [⟨(some 71), .mv (.t 10), none⟩,
 ⟨(some 72), .call f_strings_Builder_WriteString [(.t 8), (.t 71)], none⟩]))))
 (.reg [⟨(some 73), .bin .add (.t 65) (.c (.i .i64 1)), none⟩,
 ⟨(some 65), .mv (.t 73), none⟩])))))))
 (.seq (.reg [⟨(some 74), .call f_strings_Builder_String [(.t 8)], none⟩,
 ⟨(some 4), .mv (.t 74), none⟩])
 .ret)))))))))) }
def c_moves_utilities : Fun := { cin := [], cout := [.id], ntmps := 6, keep := false, res := [(0, none)], body :=
 (.seq (.reg [⟨(some 0), .mv (.c .nm), none⟩])
 (.seq (.reg [⟨(some 1), .mkm, none⟩,
 ⟨(some 2), .build [(.s []), (.i .u8 0), (.b false), .nf, .nf, .nf] [(0, 1, (.c (.s [102]))), (3, 1, (.c (.fn f_moves_spot []))), (4, 1, (.c (.fn f_moves_itself []))), (5, 1, (.c (.fn f_moves_rename [])))], none⟩,
 ⟨none, .ins 1 (.t 1) (.c (.s [109, 118])) (.t 2), none⟩,
 ⟨(some 3), .build [(.s []), (.i .u8 0), (.b false), .nf, .nf, .nf] [(0, 1, (.c (.s [82, 114, 102]))), (2, 1, (.c (.b true))), (3, 1, (.c (.fn f_moves_find []))), (4, 1, (.c (.fn f_moves_there []))), (5, 1, (.c (.fn f_moves_copyOf [])))], none⟩,
 ⟨none, .ins 1 (.t 1) (.c (.s [99, 112])) (.t 3), none⟩,
 ⟨(some 4), .build [(.s []), (.i .u8 0), (.b false), .nf, .nf, .nf] [(0, 1, (.c (.s [115, 102]))), (1, 1, (.c (.i .u8 115))), (3, 1, (.c (.fn f_moves_text []))), (4, 1, (.c (.fn f_moves_itself []))), (5, 1, (.c (.fn f_moves_link [])))], none⟩,
 ⟨none, .ins 1 (.t 1) (.c (.s [108, 110])) (.t 4), none⟩,
 ⟨(some 5), .mv (.t 1), none⟩,
 ⟨(some 0), .mv (.t 5), none⟩])
 .ret)) }
def c_opts_Opts_Has : Fun := { cin := [(.agg [.id, (.sl 1 .id)]), .id], cout := [.id], ntmps := 10, keep := false, res := [(4, none)], body :=
 (.seq (.reg [⟨(some 2), .box 108 2 (.t 0), none⟩,
 ⟨(some 4), .mv (.c (.b false)), none⟩])
 (.seq (.reg [⟨(some 5), .fa 0 (.t 2), none⟩,
 ⟨(some 6), .ld false 1 (.t 5), none⟩,
 ⟨(some 7), .mv (.t 1), none⟩,
 ⟨(some 8), .call f_strings_IndexByte [(.t 6), (.t 7)], none⟩,
 ⟨(some 9), .bin .geq (.t 8) (.c (.i .i64 0)), none⟩,
 ⟨(some 4), .mv (.t 9), none⟩])
 .ret)) }
def c_moves_call_refuse : Fun := { cin := [.id, .id, .id], cout := [.id], ntmps := 32, keep := false, res := [(6, none)], body :=
 (.seq (.reg [⟨(some 6), .mv (.c (.b false)), none⟩])
 (.seq (.seq (.reg [⟨(some 7), .mv (.t 2), none⟩,
 ⟨(some 8), .bin .neq (.t 7) (.c (.i .i64 0)), none⟩])
 (.cond (.t 8)
 (.regD [⟨(some 9), .mv (.t 0), none⟩,
 ⟨(some 10), .mv (.t 0), none⟩,
 ⟨(some 11), .nck (.t 10), none⟩,
 ⟨(some 12), .fa 4 (.t 11), none⟩,
 ⟨(some 13), .ld false 1 (.t 12), none⟩,
 ⟨(some 14), .mv (.t 0), none⟩,
 ⟨(some 15), .nck (.t 14), none⟩,
 ⟨(some 16), .fa 1 (.t 15), none⟩,
 ⟨(some 17), .ld false 1 (.t 16), none⟩,
 ⟨(some 18), .bin .add (.t 17) (.c (.s [58, 32])), none⟩,
 ⟨(some 19), .mv (.t 1), none⟩,
 ⟨(some 20), .bin .add (.t 18) (.t 19), none⟩,
 ⟨(some 21), .bin .add (.t 20) (.c (.s [58, 32])), none⟩,
 ⟨(some 22), .mv (.t 2), none⟩,
 ⟨(some 23), .call f_moves_Why [(.t 22)], none⟩,
 ⟨(some 24), .bin .add (.t 21) (.t 23), none⟩,
 ⟨(some 25), .bin .add (.t 24) (.c (.s [10])), none⟩,
 ⟨(some 26), .bsl 1 [(.t 25)], none⟩,
 ⟨(some 27), .app 1 9 (.t 13) (.t 26), none⟩,
 ⟨(some 28), .nck (.t 9), none⟩,
 ⟨(some 29), .fa 4 (.t 28), none⟩,
 ⟨none, .st 1 (.t 29) (.t 27), none⟩] [(4, (4, 15)), (8, (8, 15))])
 .skip))
 (.seq (.reg [⟨(some 30), .mv (.t 2), none⟩,
 ⟨(some 31), .bin .neq (.t 30) (.c (.i .i64 0)), none⟩,
 ⟨(some 6), .mv (.t 31), none⟩])
 .ret))) }
def c_moves_call_look : Fun := { cin := [.id, (.agg [.id, .id, .id, .id, .id, .id]), .id], cout := [.id], ntmps := 63, keep := false, res := [(6, none)], body :=
 (.seq (.reg [⟨(some 4), .box 128 6 (.t 1), none⟩,
 ⟨(some 6), .mv (.c (.i .i64 0)), none⟩])
 (.seq (.seq (.reg [⟨(some 11), .mv (.t 0), none⟩,
 ⟨(some 12), .nck (.t 11), none⟩,
 ⟨(some 13), .fa 5 (.t 12), none⟩,
 ⟨(some 14), .ld false 1 (.t 13), none⟩,
 ⟨(some 15), .call f_path_Check [(.t 14)], none⟩,
 ⟨(some 7), .mv (.t 15), none⟩])
 (.seq (.reg [⟨(some 16), .mv (.t 7), none⟩,
 ⟨(some 17), .bin .neq (.t 16) (.c (.i .i64 0)), none⟩])
 (.cond (.t 17)
 (.seq (.reg [⟨(some 18), .mv (.t 7), none⟩,
 ⟨(some 6), .mv (.t 18), none⟩])
 .ret)
 .skip)))
 (.seq (.regD [⟨(some 20), .mv (.t 0), none⟩,
 ⟨(some 21), .nck (.t 20), none⟩,
 ⟨(some 22), .fa 0 (.t 21), none⟩,
 ⟨(some 23), .ld false 1 (.t 22), none⟩,
 ⟨(some 24), .mv (.t 0), none⟩,
 ⟨(some 25), .nck (.t 24), none⟩,
 ⟨(some 26), .fa 5 (.t 25), none⟩,
 ⟨(some 27), .ld false 1 (.t 26), none⟩,
 ⟨(some 28), .call f_walk_Find [(.t 23), (.t 27)], none⟩,
 ⟨(some 19), .mv (.t 28), none⟩,
 ⟨(some 29), .ext (.t 19) 0, none⟩,
 ⟨(some 30), .ext (.t 19) 1, none⟩,
 ⟨(some 31), .ext (.t 19) 2, none⟩,
 ⟨(some 8), .mv (.t 29), none⟩,
 ⟨(some 9), .mv (.t 30), none⟩,
 ⟨(some 10), .mv (.t 31), none⟩] [])
 (.seq (.blk 0 (.seq (.reg [⟨(some 33), .mv (.t 10), none⟩,
 ⟨(some 34), .bin .neq (.t 33) (.c (.i .i64 0)), none⟩,
 ⟨(some 32), .mv (.t 34), none⟩])
 (.cond (.t 32)
 (.seq (.reg [⟨(some 35), .mv (.t 10), none⟩,
 ⟨(some 6), .mv (.t 35), none⟩])
 .ret)
 (.seq (.reg [⟨(some 37), .mv (.t 9), none⟩,
 ⟨(some 38), .bin .eql (.t 37) (.c (.i .u8 0)), none⟩,
 ⟨(some 39), .mv (.t 38), none⟩,
 ⟨(some 40), .mv (.t 2), (some (39, true))⟩,
 ⟨(some 41), .bin .gtr (.t 40) (.c (.i .i64 1)), (some (39, true))⟩,
 ⟨(some 42), .mv (.t 41), (some (39, true))⟩,
 ⟨(some 43), .mv (.t 0), (some (42, false))⟩,
 ⟨(some 44), .ld true 6 (.t 4), (some (42, false))⟩,
 ⟨(some 45), .call f_moves_call_lost [(.t 43), (.t 44)], (some (42, false))⟩,
 ⟨(some 46), .pick (.t 42) (.c (.b true)) (.t 45), (some (39, true))⟩,
 ⟨(some 47), .pick (.t 39) (.t 46) (.c (.b false)), none⟩,
 ⟨(some 36), .mv (.t 47), none⟩])
 (.cond (.t 36)
 (.seq (.reg [⟨(some 6), .mv (.c (.i .i64 5)), none⟩])
 .ret)
 (.seq (.reg [⟨(some 49), .mv (.t 2), none⟩,
 ⟨(some 50), .bin .gtr (.t 49) (.c (.i .i64 1)), none⟩,
 ⟨(some 51), .mv (.t 50), none⟩,
 ⟨(some 52), .mv (.t 9), (some (51, true))⟩,
 ⟨(some 53), .bin .neq (.t 52) (.c (.i .u8 2)), (some (51, true))⟩,
 ⟨(some 54), .pick (.t 51) (.t 53) (.c (.b false)), none⟩,
 ⟨(some 48), .mv (.t 54), none⟩])
 (.cond (.t 48)
 (.seq (.reg [⟨(some 6), .mv (.c (.i .i64 55)), none⟩])
 .ret)
 .skip)))))))
 (.seq (.reg [⟨(some 55), .mv (.t 0), none⟩,
 ⟨(some 56), .mv (.t 0), none⟩,
 ⟨(some 57), .mv (.t 8), none⟩,
 ⟨(some 58), .mv (.t 9), none⟩,
 ⟨(some 59), .nck (.t 55), none⟩,
 ⟨(some 60), .fa 6 (.t 59), none⟩,
 ⟨none, .st 1 (.t 60) (.t 57), none⟩,
 ⟨(some 61), .nck (.t 56), none⟩,
 ⟨(some 62), .fa 7 (.t 61), none⟩,
 ⟨none, .st 1 (.t 62) (.t 58), none⟩])
 (.seq (.reg [⟨(some 6), .mv (.c (.i .i64 0)), none⟩])
 .ret)))))) }
def c_moves_call_source : Fun := { cin := [.id, (.agg [.id, .id, .id, .id, .id, .id]), .id], cout := [.id], ntmps := 38, keep := false, res := [(6, none)], body :=
 (.seq (.reg [⟨(some 4), .box 128 6 (.t 1), none⟩,
 ⟨(some 6), .mv (.c (.i .i64 0)), none⟩])
 (.seq (.reg [⟨(some 11), .fa 3 (.t 4), none⟩,
 ⟨(some 12), .ld false 1 (.t 11), none⟩,
 ⟨(some 13), .mv (.t 0), none⟩,
 ⟨(some 14), .mv (.t 2), none⟩,
 ⟨(some 15), .callX (.t 12) [(.t 13), (.t 14)], none⟩,
 ⟨(some 10), .mv (.t 15), none⟩,
 ⟨(some 16), .ext (.t 10) 0, none⟩,
 ⟨(some 17), .ext (.t 10) 1, none⟩,
 ⟨(some 7), .mv (.t 16), none⟩,
 ⟨(some 8), .mv (.t 17), none⟩])
 (.seq (.seq (.reg [⟨(some 18), .mv (.t 8), none⟩,
 ⟨(some 19), .bin .neq (.t 18) (.c (.i .i64 0)), none⟩])
 (.cond (.t 19)
 (.seq (.reg [⟨(some 20), .mv (.t 8), none⟩,
 ⟨(some 6), .mv (.t 20), none⟩])
 .ret)
 .skip))
 (.seq (.reg [⟨(some 22), .mv (.t 0), none⟩,
 ⟨(some 23), .ld true 6 (.t 4), none⟩,
 ⟨(some 24), .mv (.t 2), none⟩,
 ⟨(some 25), .call f_moves_call_to [(.t 22), (.t 23), (.t 24)], none⟩,
 ⟨(some 21), .mv (.t 25), none⟩,
 ⟨(some 26), .ext (.t 21) 0, none⟩,
 ⟨(some 27), .ext (.t 21) 1, none⟩,
 ⟨(some 9), .mv (.t 26), none⟩,
 ⟨(some 8), .mv (.t 27), none⟩])
 (.seq (.seq (.reg [⟨(some 28), .mv (.t 8), none⟩,
 ⟨(some 29), .bin .neq (.t 28) (.c (.i .i64 0)), none⟩])
 (.cond (.t 29)
 (.seq (.reg [⟨(some 30), .mv (.t 8), none⟩,
 ⟨(some 6), .mv (.t 30), none⟩])
 .ret)
 .skip))
 (.seq (.reg [⟨(some 31), .fa 5 (.t 4), none⟩,
 ⟨(some 32), .ld false 1 (.t 31), none⟩,
 ⟨(some 33), .mv (.t 0), none⟩,
 ⟨(some 34), .mv (.t 2), none⟩,
 ⟨(some 35), .mv (.t 7), none⟩,
 ⟨(some 36), .mv (.t 9), none⟩,
 ⟨(some 37), .callX (.t 32) [(.t 33), (.t 34), (.t 35), (.t 36)], none⟩,
 ⟨(some 6), .mv (.t 37), none⟩])
 .ret)))))) }
def c_path_Last : Fun := { cin := [.id], cout := [.id, .id], ntmps := 15, keep := false, res := [(2, none), (3, none)], body :=
 (.seq (.reg [⟨(some 2), .mv (.c (.s [])), none⟩,
 ⟨(some 3), .mv (.c (.b false)), none⟩])
 (.seq (.reg [⟨(some 4), .mv (.t 0), none⟩,
 ⟨(some 5), .call f_strings_TrimRight [(.t 4), (.c (.s [47]))], none⟩,
 ⟨(some 0), .mv (.t 5), none⟩])
 (.seq (.reg [⟨(some 6), .mv (.t 0), none⟩,
 ⟨(some 7), .mv (.t 0), none⟩,
 ⟨(some 8), .call f_strings_LastIndexByte [(.t 7), (.c (.i .u8 47))], none⟩,
 ⟨(some 9), .bin .add (.t 8) (.c (.i .i64 1)), none⟩,
 ⟨(some 10), .slS (.t 6) (some (.t 9)) none, none⟩,
 ⟨(some 0), .mv (.t 10), none⟩])
 (.seq (.seq (.reg [⟨(some 11), .mv (.t 0), none⟩,
 ⟨(some 12), .call f_path_Name [(.t 11)], none⟩,
 ⟨(some 13), .un .not (.t 12), none⟩])
 (.cond (.t 13)
 (.seq (.reg [⟨(some 2), .mv (.c (.s [])), none⟩,
 ⟨(some 3), .mv (.c (.b false)), none⟩])
 .ret)
 .skip))
 (.seq (.reg [⟨(some 14), .mv (.t 0), none⟩,
 ⟨(some 2), .mv (.t 14), none⟩,
 ⟨(some 3), .mv (.c (.b true)), none⟩])
 .ret))))) }
def c_ftree_find : Fun := { cin := [(.agg [.id, .id, (.sl 1 .id), (.sl 4 (.agg [.id, .id, (.sl 1 .id), (.sl 4 (.agg [.id, .id, (.sl 1 .id), (.sl 4 .id)]))]))]), (.sl 1 .id)], cout := [(.agg [.id, .id, (.sl 1 .id), (.sl 4 (.agg [.id, .id, (.sl 1 .id), (.sl 4 (.agg [.id, .id, (.sl 1 .id), (.sl 4 .id)]))]))]), .id], ntmps := 38, keep := false, res := [(4, some (true, 4)), (5, none)], body :=
 (.seq (.reg [⟨(some 2), .box 25 4 (.t 0), none⟩,
 ⟨(some 4), .alloc 25 [(.i .u8 0), (.s []), .nsl, .nsl], none⟩,
 ⟨(some 5), .mv (.c (.b false)), none⟩])
 (.seq (.seq (.reg [⟨(some 10), .mv (.t 1), none⟩,
 ⟨(some 11), .len 1 (.t 10), none⟩,
 ⟨(some 12), .mv (.c (.i .i64 0)), none⟩])
 (.blk 0 (.loop (.seq (.reg [⟨(some 13), .bin .lss (.t 12) (.t 11), none⟩])
 (.seq (.cond (.t 13)
 .skip
 (.exit 0))
 (.seq (.blk 1 (.seq (.reg [⟨(some 14), .ia 1 (.t 10) (.t 12), none⟩,
 ⟨(some 15), .ld false 1 (.t 14), none⟩,
 ⟨(some 7), .mv (.t 15), none⟩])
 (.seq (.reg [⟨(some 17), .fa 2 (.t 2), none⟩,
 ⟨(some 18), .ld false 1 (.t 17), none⟩,
 ⟨(some 19), .mv (.t 7), none⟩,
 ⟨(some 20), .call f_slices_BinarySearch_string_string [(.t 18), (.t 19)], none⟩,
 ⟨(some 16), .mv (.t 20), none⟩,
 ⟨(some 21), .ext (.t 16) 0, none⟩,
 ⟨(some 22), .ext (.t 16) 1, none⟩,
 ⟨(some 8), .mv (.t 21), none⟩,
 ⟨(some 9), .mv (.t 22), none⟩])
 (.seq (.seq (.reg [⟨(some 23), .fa 0 (.t 2), none⟩,
 ⟨(some 24), .ld false 1 (.t 23), none⟩,
 ⟨(some 25), .bin .neq (.t 24) (.c (.i .u8 2)), none⟩,
 ⟨(some 26), .mv (.t 25), none⟩,
 ⟨(some 27), .mv (.t 9), (some (26, false))⟩,
 ⟨(some 28), .un .not (.t 27), (some (26, false))⟩,
 ⟨(some 29), .pick (.t 26) (.c (.b true)) (.t 28), none⟩])
 (.cond (.t 29)
 (.seq (.reg [⟨(some 30), .build [(.i .u8 0), (.s []), .nsl, .nsl] [], none⟩,
 ⟨none, .st 4 (.t 4) (.t 30), none⟩,
 ⟨(some 5), .mv (.c (.b false)), none⟩])
 .ret)
 .skip))
 (.reg [⟨(some 31), .fa 3 (.t 2), none⟩,
 ⟨(some 32), .ld false 1 (.t 31), none⟩,
 ⟨(some 33), .mv (.t 8), none⟩,
 ⟨(some 34), .ia 4 (.t 32) (.t 33), none⟩,
 ⟨(some 35), .ld true 4 (.t 34), none⟩,
 ⟨none, .st 4 (.t 2) (.t 35), none⟩])))))
 (.reg [⟨(some 36), .bin .add (.t 12) (.c (.i .i64 1)), none⟩,
 ⟨(some 12), .mv (.t 36), none⟩])))))))
 (.seq (.reg [⟨(some 37), .ld true 4 (.t 2), none⟩,
 ⟨none, .st 4 (.t 4) (.t 37), none⟩,
 ⟨(some 5), .mv (.c (.b true)), none⟩])
 .ret))) }
def c_pat_May : Fun := { cin := [(.sl 6 (.agg [.id, .id, (.sl 1 .id), (.sl 1 .id), .id, .id]))], cout := [.id], ntmps := 59, keep := false, res := [(2, none)], body :=
 (.seq (.reg [⟨(some 2), .mv (.c (.b false)), none⟩])
 (.seq (.seq (.reg [⟨(some 8), .mv (.t 0), none⟩,
 ⟨(some 9), .len 1 (.t 8), none⟩,
 ⟨(some 10), .bin .eql (.t 9) (.c (.i .i64 0)), none⟩,
 ⟨(some 11), .mv (.t 10), none⟩,
 ⟨(some 12), .mv (.t 0), (some (11, false))⟩,
 ⟨(some 13), .ia 6 (.t 12) (.c (.i .i64 0)), (some (11, false))⟩,
 ⟨(some 14), .ld true 6 (.t 13), (some (11, false))⟩,
 ⟨(some 15), .call f_pat_dir [(.t 14)], (some (11, false))⟩,
 ⟨(some 16), .un .not (.t 15), (some (11, false))⟩,
 ⟨(some 17), .pick (.t 11) (.c (.b true)) (.t 16), none⟩])
 (.cond (.t 17)
 (.seq (.reg [⟨(some 2), .mv (.c (.b false)), none⟩])
 .ret)
 .skip))
 (.seq (.reg [⟨(some 18), .mv (.t 0), none⟩,
 ⟨(some 19), .len 1 (.t 18), none⟩,
 ⟨(some 20), .mks 3 1 [(.i .i64 0)] (.t 19) (.t 19), none⟩,
 ⟨(some 3), .mv (.t 20), none⟩])
 (.seq (.seq (.reg [⟨(some 21), .mv (.t 0), none⟩,
 ⟨(some 22), .len 1 (.t 21), none⟩,
 ⟨(some 23), .mv (.c (.i .i64 0)), none⟩])
 (.blk 0 (.loop (.seq (.reg [⟨(some 24), .bin .lss (.t 23) (.t 22), none⟩])
 (.seq (.cond (.t 24)
 .skip
 (.exit 0))
 (.seq (.blk 1 (.seq (.reg [⟨(some 25), .mv (.t 23), none⟩,
 ⟨(some 26), .ia 6 (.t 21) (.t 23), none⟩,
 ⟨(some 27), .ld true 6 (.t 26), none⟩,
 ⟨(some 5), .alloc 84 [(.b false), (.i .u8 0), .nsl, .nsl, (.i .i64 0), (.i .i64 0)], none⟩,
 ⟨(some 4), .mv (.t 25), none⟩,
 ⟨none, .st 6 (.t 5) (.t 27), none⟩])
 (.seq (.seq (.reg [⟨(some 28), .ld true 6 (.t 5), none⟩,
 ⟨(some 29), .call f_pat_one [(.t 28)], none⟩,
 ⟨(some 30), .un .not (.t 29), none⟩])
 (.cond (.t 30)
 (.seq (.reg [⟨(some 2), .mv (.c (.b false)), none⟩])
 .ret)
 .skip))
 (.seq (.reg [⟨(some 31), .fa 3 (.t 5), none⟩,
 ⟨(some 32), .ld false 1 (.t 31), none⟩,
 ⟨(some 33), .len 1 (.t 32), none⟩,
 ⟨(some 34), .mv (.c (.i .i64 0)), none⟩])
 (.blk 2 (.loop (.seq (.reg [⟨(some 35), .bin .lss (.t 34) (.t 33), none⟩])
 (.seq (.cond (.t 35)
 .skip
 (.exit 2))
 (.seq (.blk 3 (.seq (.reg [⟨(some 36), .ia 1 (.t 32) (.t 34), none⟩,
 ⟨(some 37), .ld false 1 (.t 36), none⟩,
 ⟨(some 7), .mv (.t 37), none⟩])
 (.seq (.seq (.reg [⟨(some 38), .mv (.t 7), none⟩,
 ⟨(some 39), .mv (.t 4), none⟩,
 ⟨(some 40), .bin .leq (.t 38) (.t 39), none⟩,
 ⟨(some 41), .mv (.t 40), none⟩,
 ⟨(some 42), .mv (.t 7), (some (41, false))⟩,
 ⟨(some 43), .mv (.t 0), (some (41, false))⟩,
 ⟨(some 44), .len 1 (.t 43), (some (41, false))⟩,
 ⟨(some 45), .bin .geq (.t 42) (.t 44), (some (41, false))⟩,
 ⟨(some 46), .pick (.t 41) (.c (.b true)) (.t 45), none⟩])
 (.cond (.t 46)
 (.seq (.reg [⟨(some 2), .mv (.c (.b false)), none⟩])
 .ret)
 .skip))
 (.seq (.thw 3)
 (.reg [⟨(some 47), .mv (.t 3), none⟩,
 ⟨(some 48), .mv (.t 7), none⟩,
 ⟨(some 49), .ia 1 (.t 47) (.t 48), none⟩,
 ⟨(some 50), .ld false 1 (.t 49), none⟩,
 ⟨(some 51), .bin .add (.t 50) (.c (.i .i64 1)), none⟩,
 ⟨(some 52), .ia 1 (.t 47) (.t 48), none⟩,
 ⟨none, .st 1 (.t 52) (.t 51), none⟩])))))
 (.reg [⟨(some 53), .bin .add (.t 34) (.c (.i .i64 1)), none⟩,
 ⟨(some 34), .mv (.t 53), none⟩]))))))))))
 (.reg [⟨(some 54), .bin .add (.t 23) (.c (.i .i64 1)), none⟩,
 ⟨(some 23), .mv (.t 54), none⟩])))))))
 (.seq (.reg [⟨(some 55), .mv (.t 3), none⟩,
 ⟨(some 56), .slc false 1 (.t 55) (some (.c (.i .i64 1))) none none, none⟩,
 ⟨(some 57), .call f_slices_ContainsFunc_int_int [(.t 56), (.c (.fn f_pat_May_1 []))], none⟩,
 ⟨(some 58), .un .not (.t 57), none⟩,
 ⟨(some 2), .mv (.t 58), none⟩])
 .ret))))) }
def c_slices_Clone_string_string : Fun := { cin := [(.sl 1 .id)], cout := [], ntmps := 8, keep := true, res := [(2, none)], body :=
 (.seq (.reg [⟨(some 2), .mv (.c .nsl), none⟩])
 (.seq (.seq (.reg [⟨(some 3), .mv (.t 0), none⟩,
 ⟨(some 4), .eq .sl false (.t 3) (.c .nsl), none⟩])
 (.cond (.t 4)
 (.seq (.reg [⟨(some 2), .mv (.c .nsl), none⟩])
 .ret)
 .skip))
 (.seq (.reg [⟨(some 5), .bsl 1 [], none⟩,
 ⟨(some 6), .mv (.t 0), none⟩,
 ⟨(some 7), .app 1 9 (.t 5) (.t 6), none⟩,
 ⟨(some 2), .mv (.t 7), none⟩])
 .ret))) }
def c_ftree_depth : Fun := { cin := [(.agg [.id, .id, (.sl 1 .id), (.sl 4 (.agg [.id, .id, (.sl 1 .id), (.sl 4 (.agg [.id, .id, (.sl 1 .id), (.sl 4 .id)]))]))])], cout := [.id], ntmps := 20, keep := false, res := [(2, none)], body :=
 (.seq (.reg [⟨(some 1), .box 25 4 (.t 0), none⟩,
 ⟨(some 2), .mv (.c (.i .i64 0)), none⟩])
 (.seq (.reg [⟨(some 3), .mv (.c (.i .i64 0)), none⟩])
 (.seq (.seq (.reg [⟨(some 6), .fa 3 (.t 1), none⟩,
 ⟨(some 7), .ld false 1 (.t 6), none⟩,
 ⟨(some 8), .len 1 (.t 7), none⟩,
 ⟨(some 9), .mv (.c (.i .i64 0)), none⟩])
 (.blk 0 (.loop (.seq (.reg [⟨(some 10), .bin .lss (.t 9) (.t 8), none⟩])
 (.seq (.cond (.t 10)
 .skip
 (.exit 0))
 (.seq (.blk 1 (.seq (.reg [⟨(some 11), .ia 4 (.t 7) (.t 9), none⟩,
 ⟨(some 12), .ld true 4 (.t 11), none⟩,
 ⟨(some 5), .alloc 25 [(.i .u8 0), (.s []), .nsl, .nsl], none⟩,
 ⟨none, .st 4 (.t 5) (.t 12), none⟩])
 (.reg [⟨(some 13), .mv (.t 3), none⟩,
 ⟨(some 14), .ld true 4 (.t 5), none⟩,
 ⟨(some 15), .call f_ftree_depth [(.t 14)], none⟩,
 ⟨(some 16), .bin .add (.c (.i .i64 1)) (.t 15), none⟩,
 ⟨(some 17), .mm true (.t 13) (.t 16), none⟩,
 ⟨(some 3), .mv (.t 17), none⟩])))
 (.reg [⟨(some 18), .bin .add (.t 9) (.c (.i .i64 1)), none⟩,
 ⟨(some 9), .mv (.t 18), none⟩])))))))
 (.seq (.reg [⟨(some 19), .mv (.t 3), none⟩,
 ⟨(some 2), .mv (.t 19), none⟩])
 .ret)))) }
def c_opts_letter : Fun := { cin := [.id], cout := [.id], ntmps := 17, keep := false, res := [(2, none)], body :=
 (.seq (.reg [⟨(some 2), .mv (.c (.b false)), none⟩])
 (.seq (.reg [⟨(some 3), .mv (.t 0), none⟩,
 ⟨(some 4), .bin .geq (.t 3) (.c (.i .u8 97)), none⟩,
 ⟨(some 5), .mv (.t 4), none⟩,
 ⟨(some 6), .mv (.t 0), (some (5, true))⟩,
 ⟨(some 7), .bin .leq (.t 6) (.c (.i .u8 122)), (some (5, true))⟩,
 ⟨(some 8), .pick (.t 5) (.t 7) (.c (.b false)), none⟩,
 ⟨(some 9), .mv (.t 8), none⟩,
 ⟨(some 10), .mv (.t 0), (some (9, false))⟩,
 ⟨(some 11), .bin .geq (.t 10) (.c (.i .u8 65)), (some (9, false))⟩,
 ⟨(some 12), .mv (.t 11), (some (9, false))⟩,
 ⟨(some 13), .mv (.t 0), (some (12, true))⟩,
 ⟨(some 14), .bin .leq (.t 13) (.c (.i .u8 90)), (some (12, true))⟩,
 ⟨(some 15), .pick (.t 12) (.t 14) (.c (.b false)), (some (9, false))⟩,
 ⟨(some 16), .pick (.t 9) (.c (.b true)) (.t 15), none⟩,
 ⟨(some 2), .mv (.t 16), none⟩])
 .ret)) }
def c_internal_stringslite_IndexByte : Fun := { cin := [.id, .id], cout := [.id], ntmps := 8, keep := false, res := [(4, none)], body :=
 (.seq (.reg [⟨(some 4), .mv (.c (.i .i64 0)), none⟩])
 (.seq (.reg [⟨(some 5), .mv (.t 0), none⟩,
 ⟨(some 6), .mv (.t 1), none⟩,
 ⟨(some 7), .xtn 0 [(.t 5), (.t 6)], none⟩,
 ⟨(some 4), .mv (.t 7), none⟩])
 .ret)) }
def c_strings_ContainsAny : Fun := { cin := [.id, .id], cout := [.id], ntmps := 9, keep := false, res := [(4, none)], body :=
 (.seq (.reg [⟨(some 4), .mv (.c (.b false)), none⟩])
 (.seq (.reg [⟨(some 5), .mv (.t 0), none⟩,
 ⟨(some 6), .mv (.t 1), none⟩,
 ⟨(some 7), .call f_strings_IndexAny [(.t 5), (.t 6)], none⟩,
 ⟨(some 8), .bin .geq (.t 7) (.c (.i .i64 0)), none⟩,
 ⟨(some 4), .mv (.t 8), none⟩])
 .ret)) }
def c_path_Steps : Fun := { cin := [.id], cout := [(.sl 1 .id)], ntmps := 6, keep := false, res := [(2, none)], body :=
 (.seq (.reg [⟨(some 2), .mv (.c .nsl), none⟩])
 (.seq (.reg [⟨(some 3), .mv (.t 0), none⟩,
 ⟨(some 4), .call f_path_steps [(.t 3)], none⟩,
 ⟨(some 5), .call f_slices_Collect_string [(.t 4)], none⟩,
 ⟨(some 2), .mv (.t 5), none⟩])
 .ret)) }
def c_path_Dir : Fun := { cin := [.id], cout := [.id], ntmps := 23, keep := false, res := [(2, none)], body :=
 (.seq (.reg [⟨(some 2), .mv (.c (.b false)), none⟩])
 (.seq (.reg [⟨(some 4), .mv (.t 0), none⟩,
 ⟨(some 5), .mv (.t 0), none⟩,
 ⟨(some 6), .call f_strings_LastIndexByte [(.t 5), (.c (.i .u8 47))], none⟩,
 ⟨(some 7), .bin .add (.t 6) (.c (.i .i64 1)), none⟩,
 ⟨(some 8), .slS (.t 4) (some (.t 7)) none, none⟩,
 ⟨(some 3), .mv (.t 8), none⟩])
 (.seq (.reg [⟨(some 9), .mv (.t 3), none⟩,
 ⟨(some 10), .bin .eql (.t 9) (.c (.s [46])), none⟩,
 ⟨(some 11), .mv (.t 10), none⟩,
 ⟨(some 12), .mv (.t 3), (some (11, false))⟩,
 ⟨(some 13), .bin .eql (.t 12) (.c (.s [46, 46])), (some (11, false))⟩,
 ⟨(some 14), .pick (.t 11) (.c (.b true)) (.t 13), none⟩,
 ⟨(some 15), .mv (.t 14), none⟩,
 ⟨(some 16), .mv (.t 3), (some (15, false))⟩,
 ⟨(some 17), .bin .eql (.t 16) (.c (.s [])), (some (15, false))⟩,
 ⟨(some 18), .mv (.t 17), (some (15, false))⟩,
 ⟨(some 19), .mv (.t 0), (some (18, true))⟩,
 ⟨(some 20), .bin .neq (.t 19) (.c (.s [])), (some (18, true))⟩,
 ⟨(some 21), .pick (.t 18) (.t 20) (.c (.b false)), (some (15, false))⟩,
 ⟨(some 22), .pick (.t 15) (.c (.b true)) (.t 21), none⟩,
 ⟨(some 2), .mv (.t 22), none⟩])
 .ret))) }
def c_walk_walker_run : Fun := { cin := [.id], cout := [(.sl 1 .id), .id, .id], ntmps := 66, keep := false, res := [(2, none), (3, none), (4, none)], body :=
 (.seq (.reg [⟨(some 2), .mv (.c .nsl), none⟩,
 ⟨(some 3), .mv (.c (.i .u8 0)), none⟩,
 ⟨(some 4), .mv (.c (.i .i64 0)), none⟩])
 (.seq (.blk 0 (.loop (.seq (.seq (.reg [⟨(some 9), .mv (.t 0), none⟩,
 ⟨(some 10), .nck (.t 9), none⟩,
 ⟨(some 11), .fa 2 (.t 10), none⟩,
 ⟨(some 12), .ld false 1 (.t 11), none⟩,
 ⟨(some 13), .len 1 (.t 12), none⟩,
 ⟨(some 14), .bin .gtr (.t 13) (.c (.i .i64 0)), none⟩])
 (.cond (.t 14)
 .skip
 (.exit 0)))
 (.blk 1 (.seq (.reg [⟨(some 15), .mv (.t 0), none⟩,
 ⟨(some 16), .nck (.t 15), none⟩,
 ⟨(some 17), .fa 2 (.t 16), none⟩,
 ⟨(some 18), .ld false 1 (.t 17), none⟩,
 ⟨(some 19), .ia 1 (.t 18) (.c (.i .i64 0)), none⟩,
 ⟨(some 20), .ld false 1 (.t 19), none⟩,
 ⟨(some 5), .mv (.t 20), none⟩])
 (.seq (.reg [⟨(some 21), .mv (.t 0), none⟩,
 ⟨(some 22), .mv (.t 0), none⟩,
 ⟨(some 23), .nck (.t 22), none⟩,
 ⟨(some 24), .fa 2 (.t 23), none⟩,
 ⟨(some 25), .ld false 1 (.t 24), none⟩,
 ⟨(some 26), .slc false 1 (.t 25) (some (.c (.i .i64 1))) none none, none⟩,
 ⟨(some 27), .nck (.t 21), none⟩,
 ⟨(some 28), .fa 2 (.t 27), none⟩,
 ⟨none, .st 1 (.t 28) (.t 26), none⟩])
 (.seq (.seq (.reg [⟨(some 29), .mv (.t 5), none⟩,
 ⟨(some 30), .bin .eql (.t 29) (.c (.s [46, 46])), none⟩])
 (.cond (.t 30)
 (.seq (.regD [⟨(some 31), .mv (.t 0), none⟩,
 ⟨(some 32), .mv (.t 0), none⟩,
 ⟨(some 33), .nck (.t 32), none⟩,
 ⟨(some 34), .fa 1 (.t 33), none⟩,
 ⟨(some 35), .ld false 1 (.t 34), none⟩,
 ⟨(some 36), .mv (.t 0), none⟩,
 ⟨(some 37), .nck (.t 36), none⟩,
 ⟨(some 38), .fa 1 (.t 37), none⟩,
 ⟨(some 39), .ld false 1 (.t 38), none⟩,
 ⟨(some 40), .len 1 (.t 39), none⟩,
 ⟨(some 41), .bin .sub (.t 40) (.c (.i .i64 1)), none⟩,
 ⟨(some 42), .mm true (.c (.i .i64 0)) (.t 41), none⟩,
 ⟨(some 43), .slc true 1 (.t 35) none (some (.t 42)) none, none⟩,
 ⟨(some 44), .nck (.t 31), none⟩,
 ⟨(some 45), .fa 1 (.t 44), none⟩,
 ⟨none, .st 1 (.t 45) (.t 43), none⟩] [])
 (.exit 1))
 .skip))
 (.seq (.reg [⟨(some 47), .mv (.t 0), none⟩,
 ⟨(some 48), .mv (.t 5), none⟩,
 ⟨(some 49), .call f_walk_walker_name [(.t 47), (.t 48)], none⟩,
 ⟨(some 46), .mv (.t 49), none⟩,
 ⟨(some 50), .ext (.t 46) 0, none⟩,
 ⟨(some 51), .ext (.t 46) 1, none⟩,
 ⟨(some 52), .ext (.t 46) 2, none⟩,
 ⟨(some 6), .mv (.t 50), none⟩,
 ⟨(some 7), .mv (.t 51), none⟩,
 ⟨(some 8), .mv (.t 52), none⟩])
 (.seq (.seq (.reg [⟨(some 53), .mv (.t 8), none⟩,
 ⟨(some 54), .bin .neq (.t 53) (.c (.i .i64 0)), none⟩])
 (.cond (.t 54)
 (.seq (.reg [⟨(some 55), .mv (.t 8), none⟩,
 ⟨(some 2), .mv (.c .nsl), none⟩,
 ⟨(some 3), .mv (.c (.i .u8 0)), none⟩,
 ⟨(some 4), .mv (.t 55), none⟩])
 .ret)
 .skip))
 (.seq (.reg [⟨(some 56), .mv (.t 7), none⟩])
 (.cond (.t 56)
 (.seq (.reg [⟨(some 57), .mv (.t 0), none⟩,
 ⟨(some 58), .nck (.t 57), none⟩,
 ⟨(some 59), .fa 1 (.t 58), none⟩,
 ⟨(some 60), .ld false 1 (.t 59), none⟩,
 ⟨(some 61), .mv (.t 6), none⟩,
 ⟨(some 2), .mv (.t 60), none⟩,
 ⟨(some 3), .mv (.t 61), none⟩,
 ⟨(some 4), .mv (.c (.i .i64 0)), none⟩])
 .ret)
 .skip)))))))))))
 (.seq (.reg [⟨(some 62), .mv (.t 0), none⟩,
 ⟨(some 63), .nck (.t 62), none⟩,
 ⟨(some 64), .fa 1 (.t 63), none⟩,
 ⟨(some 65), .ld false 1 (.t 64), none⟩,
 ⟨(some 2), .mv (.t 65), none⟩,
 ⟨(some 3), .mv (.c (.i .u8 2)), none⟩,
 ⟨(some 4), .mv (.c (.i .i64 0)), none⟩])
 .ret))) }
def c_strings_Index : Fun := { cin := [.id, .id], cout := [.id], ntmps := 8, keep := false, res := [(4, none)], body :=
 (.seq (.reg [⟨(some 4), .mv (.c (.i .i64 0)), none⟩])
 (.seq (.reg [⟨(some 5), .mv (.t 0), none⟩,
 ⟨(some 6), .mv (.t 1), none⟩,
 ⟨(some 7), .call f_internal_stringslite_Index [(.t 5), (.t 6)], none⟩,
 ⟨(some 4), .mv (.t 7), none⟩])
 .ret)) }
def c_path_steps_1 : Fun := { cin := [.id], cout := [], ntmps := 19, keep := false, res := [], body :=
 (.seq (.reg [⟨(some 2), .box 114 1 (.t 0), none⟩])
 (.seq (.reg [⟨(some 4), .ld false 1 (.t 1), none⟩,
 ⟨(some 5), .call f_strings_SplitSeq [(.t 4), (.c (.s [47]))], none⟩])
 (.blk 0 (.rf (.t 5) [6] (.reg [⟨(some 3), .mv (.t 6), none⟩])
 (.blk 1 (.seq (.reg [⟨(some 7), .mv (.t 3), none⟩,
 ⟨(some 8), .bin .neq (.t 7) (.c (.s [])), none⟩,
 ⟨(some 9), .mv (.t 8), none⟩,
 ⟨(some 10), .mv (.t 3), (some (9, true))⟩,
 ⟨(some 11), .bin .neq (.t 10) (.c (.s [46])), (some (9, true))⟩,
 ⟨(some 12), .pick (.t 9) (.t 11) (.c (.b false)), none⟩,
 ⟨(some 13), .mv (.t 12), none⟩,
 ⟨(some 14), .ld false 1 (.t 2), (some (13, true))⟩,
 ⟨(some 15), .mv (.t 3), (some (13, true))⟩,
 ⟨(some 16), .callX (.t 14) [(.t 15)], (some (13, true))⟩,
 ⟨(some 17), .un .not (.t 16), (some (13, true))⟩,
 ⟨(some 18), .pick (.t 13) (.t 17) (.c (.b false)), none⟩])
 (.cond (.t 18)
 .ret
 .skip))))))) }
def c_strings_SplitSeq : Fun := { cin := [.id, .id], cout := [.id], ntmps := 8, keep := false, res := [(4, none)], body :=
 (.seq (.reg [⟨(some 4), .mv (.c .nf), none⟩])
 (.seq (.reg [⟨(some 5), .mv (.t 0), none⟩,
 ⟨(some 6), .mv (.t 1), none⟩,
 ⟨(some 7), .call f_strings_splitSeq [(.t 5), (.t 6), (.c (.i .i64 0))], none⟩,
 ⟨(some 4), .mv (.t 7), none⟩])
 .ret)) }
def c_strings_Builder_Grow : Fun := { cin := [.id, .id], cout := [], ntmps := 25, keep := false, res := [], body :=
 (.seq (.reg [⟨(some 4), .mv (.t 0), none⟩,
 ⟨(some 5), .call f_strings_Builder_copyCheck [(.t 4)], none⟩])
 (.seq (.seq (.reg [⟨(some 6), .mv (.t 1), none⟩,
 ⟨(some 7), .bin .lss (.t 6) (.c (.i .i64 0)), none⟩])
 (.cond (.t 7)
 (.reg [⟨(some 8), .mki 9 (.c (.s [115, 116, 114, 105, 110, 103, 115, 46, 66, 117, 105, 108, 100, 101, 114, 46, 71, 114, 111, 119, 58, 32, 110, 101, 103, 97, 116, 105, 118, 101, 32, 99, 111, 117, 110, 116])), none⟩,
 ⟨none, .bad, none⟩])
 .skip))
 (.seq (.regD [⟨(some 9), .mv (.t 0), none⟩,
 ⟨(some 10), .nck (.t 9), none⟩,
 ⟨(some 11), .fa 1 (.t 10), none⟩,
 ⟨(some 12), .ld false 1 (.t 11), none⟩,
 ⟨(some 13), .cap (.t 12), none⟩,
 ⟨(some 14), .mv (.t 0), none⟩,
 ⟨(some 15), .nck (.t 14), none⟩,
 ⟨(some 16), .fa 1 (.t 15), none⟩,
 ⟨(some 17), .ld false 1 (.t 16), none⟩,
 ⟨(some 18), .len 1 (.t 17), none⟩,
 ⟨(some 19), .bin .sub (.t 13) (.t 18), none⟩,
 ⟨(some 20), .mv (.t 1), none⟩,
 ⟨(some 21), .bin .lss (.t 19) (.t 20), none⟩] [])
 (.cond (.t 21)
 (.reg [⟨(some 22), .mv (.t 0), none⟩,
 ⟨(some 23), .mv (.t 1), none⟩,
 ⟨(some 24), .call f_strings_Builder_grow [(.t 22), (.t 23)], none⟩])
 .skip)))) }
def c_strings_Builder_WriteString : Fun := { cin := [.id, .id], cout := [.id, .id], ntmps := 19, keep := false, res := [(4, none), (5, none)], body :=
 (.seq (.reg [⟨(some 4), .mv (.c (.i .i64 0)), none⟩,
 ⟨(some 5), .mv (.c .ni), none⟩])
 (.seq (.reg [⟨(some 6), .mv (.t 0), none⟩,
 ⟨(some 7), .call f_strings_Builder_copyCheck [(.t 6)], none⟩])
 (.seq (.reg [⟨(some 8), .mv (.t 0), none⟩,
 ⟨(some 9), .mv (.t 0), none⟩,
 ⟨(some 10), .nck (.t 9), none⟩,
 ⟨(some 11), .fa 1 (.t 10), none⟩,
 ⟨(some 12), .ld false 1 (.t 11), none⟩,
 ⟨(some 13), .mv (.t 1), none⟩,
 ⟨(some 14), .app 1 5 (.t 12) (.t 13), none⟩,
 ⟨(some 15), .nck (.t 8), none⟩,
 ⟨(some 16), .fa 1 (.t 15), none⟩,
 ⟨none, .st 1 (.t 16) (.t 14), none⟩])
 (.seq (.reg [⟨(some 17), .mv (.t 1), none⟩,
 ⟨(some 18), .len 0 (.t 17), none⟩,
 ⟨(some 4), .mv (.t 18), none⟩,
 ⟨(some 5), .mv (.c .ni), none⟩])
 .ret)))) }
def c_strings_Builder_String : Fun := { cin := [.id], cout := [.id], ntmps := 14, keep := false, res := [(2, none)], body :=
 (.seq (.reg [⟨(some 2), .mv (.c (.s [])), none⟩])
 (.seq (.regD [⟨(some 3), .mv (.t 0), none⟩,
 ⟨(some 4), .nck (.t 3), none⟩,
 ⟨(some 5), .fa 1 (.t 4), none⟩,
 ⟨(some 6), .ld false 1 (.t 5), none⟩,
 ⟨(some 7), .ud (.t 6), none⟩,
 ⟨(some 8), .mv (.t 0), none⟩,
 ⟨(some 9), .nck (.t 8), none⟩,
 ⟨(some 10), .fa 1 (.t 9), none⟩,
 ⟨(some 11), .ld false 1 (.t 10), none⟩,
 ⟨(some 12), .len 1 (.t 11), none⟩,
 ⟨(some 13), .us 5 (.t 7) (.t 12), none⟩,
 ⟨(some 2), .mv (.t 13), none⟩] [])
 .ret)) }
def c_moves_spot : Fun := { cin := [.id, .id], cout := [(.sl 1 .id), .id], ntmps := 24, keep := false, res := [(4, none), (5, none)], body :=
 (.seq (.reg [⟨(some 4), .mv (.c .nsl), none⟩,
 ⟨(some 5), .mv (.c (.i .i64 0)), none⟩])
 (.seq (.seq (.reg [⟨(some 7), .mv (.t 1), none⟩,
 ⟨(some 8), .call f_path_Check [(.t 7)], none⟩,
 ⟨(some 6), .mv (.t 8), none⟩])
 (.seq (.reg [⟨(some 9), .mv (.t 6), none⟩,
 ⟨(some 10), .bin .neq (.t 9) (.c (.i .i64 0)), none⟩])
 (.cond (.t 10)
 (.seq (.reg [⟨(some 11), .mv (.t 6), none⟩,
 ⟨(some 4), .mv (.c .nsl), none⟩,
 ⟨(some 5), .mv (.t 11), none⟩])
 .ret)
 .skip)))
 (.seq (.reg [⟨(some 12), .mv (.t 0), none⟩,
 ⟨(some 13), .nck (.t 12), none⟩,
 ⟨(some 14), .fa 0 (.t 13), none⟩,
 ⟨(some 15), .ld false 1 (.t 14), none⟩,
 ⟨(some 16), .mv (.t 1), none⟩,
 ⟨(some 17), .call f_walk_Spot [(.t 15), (.t 16)], none⟩,
 ⟨(some 18), .ext (.t 17) 0, none⟩,
 ⟨(some 19), .ext (.t 17) 1, none⟩,
 ⟨(some 20), .ext (.t 17) 2, none⟩,
 ⟨(some 21), .call f_moves_found [(.t 18), (.t 19), (.t 20)], none⟩,
 ⟨(some 22), .ext (.t 21) 0, none⟩,
 ⟨(some 23), .ext (.t 21) 1, none⟩,
 ⟨(some 4), .mv (.t 22), none⟩,
 ⟨(some 5), .mv (.t 23), none⟩])
 .ret))) }
def c_moves_itself : Fun := { cin := [.id], cout := [(.sl 1 .id), .id], ntmps := 22, keep := false, res := [(2, none), (3, none)], body :=
 (.seq (.reg [⟨(some 2), .mv (.c .nsl), none⟩,
 ⟨(some 3), .mv (.c (.i .i64 0)), none⟩])
 (.seq (.regD [⟨(some 8), .mv (.t 0), none⟩,
 ⟨(some 9), .nck (.t 8), none⟩,
 ⟨(some 10), .fa 0 (.t 9), none⟩,
 ⟨(some 11), .ld false 1 (.t 10), none⟩,
 ⟨(some 12), .mv (.t 0), none⟩,
 ⟨(some 13), .nck (.t 12), none⟩,
 ⟨(some 14), .fa 5 (.t 13), none⟩,
 ⟨(some 15), .ld false 1 (.t 14), none⟩,
 ⟨(some 16), .call f_walk_Spot [(.t 11), (.t 15)], none⟩,
 ⟨(some 7), .mv (.t 16), none⟩,
 ⟨(some 17), .ext (.t 7) 0, none⟩,
 ⟨(some 18), .ext (.t 7) 1, none⟩,
 ⟨(some 19), .ext (.t 7) 2, none⟩,
 ⟨(some 4), .mv (.t 17), none⟩,
 ⟨(some 5), .mv (.t 18), none⟩,
 ⟨(some 6), .mv (.t 19), none⟩] [])
 (.seq (.reg [⟨(some 20), .mv (.t 4), none⟩,
 ⟨(some 21), .mv (.t 6), none⟩,
 ⟨(some 2), .mv (.t 20), none⟩,
 ⟨(some 3), .mv (.t 21), none⟩])
 .ret))) }
def c_moves_rename : Fun := { cin := [.id, .id, (.sl 1 .id), (.sl 1 .id)], cout := [.id], ntmps := 16, keep := false, res := [(8, none)], body :=
 (.seq (.reg [⟨(some 8), .mv (.c (.i .i64 0)), none⟩])
 (.seq (.reg [⟨(some 9), .mv (.t 0), none⟩,
 ⟨(some 10), .nck (.t 9), none⟩,
 ⟨(some 11), .fa 0 (.t 10), none⟩,
 ⟨(some 12), .ld false 1 (.t 11), none⟩,
 ⟨(some 13), .mv (.t 2), none⟩,
 ⟨(some 14), .mv (.t 3), none⟩,
 ⟨(some 15), .call f_prim_Rename [(.t 12), (.t 13), (.t 14)], none⟩,
 ⟨(some 8), .mv (.t 15), none⟩])
 .ret)) }
def c_moves_find : Fun := { cin := [.id, .id], cout := [(.sl 1 .id), .id], ntmps := 31, keep := false, res := [(4, none), (5, none)], body :=
 (.seq (.reg [⟨(some 4), .mv (.c .nsl), none⟩,
 ⟨(some 5), .mv (.c (.i .i64 0)), none⟩])
 (.seq (.seq (.reg [⟨(some 7), .mv (.t 0), none⟩,
 ⟨(some 8), .call f_moves_call_deep [(.t 7)], none⟩])
 (.cond (.t 8)
 (.seq (.reg [⟨(some 9), .mv (.t 0), none⟩,
 ⟨(some 10), .mv (.t 1), none⟩,
 ⟨(some 11), .call f_moves_spot [(.t 9), (.t 10)], none⟩,
 ⟨(some 12), .ext (.t 11) 0, none⟩,
 ⟨(some 13), .ext (.t 11) 1, none⟩,
 ⟨(some 4), .mv (.t 12), none⟩,
 ⟨(some 5), .mv (.t 13), none⟩])
 .ret)
 .skip))
 (.seq (.seq (.reg [⟨(some 14), .mv (.t 1), none⟩,
 ⟨(some 15), .call f_path_Check [(.t 14)], none⟩,
 ⟨(some 6), .mv (.t 15), none⟩])
 (.seq (.reg [⟨(some 16), .mv (.t 6), none⟩,
 ⟨(some 17), .bin .neq (.t 16) (.c (.i .i64 0)), none⟩])
 (.cond (.t 17)
 (.seq (.reg [⟨(some 18), .mv (.t 6), none⟩,
 ⟨(some 4), .mv (.c .nsl), none⟩,
 ⟨(some 5), .mv (.t 18), none⟩])
 .ret)
 .skip)))
 (.seq (.reg [⟨(some 19), .mv (.t 0), none⟩,
 ⟨(some 20), .nck (.t 19), none⟩,
 ⟨(some 21), .fa 0 (.t 20), none⟩,
 ⟨(some 22), .ld false 1 (.t 21), none⟩,
 ⟨(some 23), .mv (.t 1), none⟩,
 ⟨(some 24), .call f_walk_Find [(.t 22), (.t 23)], none⟩,
 ⟨(some 25), .ext (.t 24) 0, none⟩,
 ⟨(some 26), .ext (.t 24) 1, none⟩,
 ⟨(some 27), .ext (.t 24) 2, none⟩,
 ⟨(some 28), .call f_moves_found [(.t 25), (.t 26), (.t 27)], none⟩,
 ⟨(some 29), .ext (.t 28) 0, none⟩,
 ⟨(some 30), .ext (.t 28) 1, none⟩,
 ⟨(some 4), .mv (.t 29), none⟩,
 ⟨(some 5), .mv (.t 30), none⟩])
 .ret)))) }
def c_moves_there : Fun := { cin := [.id], cout := [(.sl 1 .id), .id], ntmps := 8, keep := false, res := [(2, none), (3, none)], body :=
 (.seq (.reg [⟨(some 2), .mv (.c .nsl), none⟩,
 ⟨(some 3), .mv (.c (.i .i64 0)), none⟩])
 (.seq (.reg [⟨(some 4), .mv (.t 0), none⟩,
 ⟨(some 5), .nck (.t 4), none⟩,
 ⟨(some 6), .fa 6 (.t 5), none⟩,
 ⟨(some 7), .ld false 1 (.t 6), none⟩,
 ⟨(some 2), .mv (.t 7), none⟩,
 ⟨(some 3), .mv (.c (.i .i64 0)), none⟩])
 .ret)) }
def c_moves_copyOf : Fun := { cin := [.id, .id, (.sl 1 .id), (.sl 1 .id)], cout := [.id], ntmps := 18, keep := false, res := [(8, none)], body :=
 (.seq (.reg [⟨(some 8), .mv (.c (.i .i64 0)), none⟩])
 (.seq (.regD [⟨(some 9), .mv (.t 0), none⟩,
 ⟨(some 10), .nck (.t 9), none⟩,
 ⟨(some 11), .fa 0 (.t 10), none⟩,
 ⟨(some 12), .ld false 1 (.t 11), none⟩,
 ⟨(some 13), .mv (.t 2), none⟩,
 ⟨(some 14), .mv (.t 3), none⟩,
 ⟨(some 15), .mv (.t 0), none⟩,
 ⟨(some 16), .call f_moves_call_deep [(.t 15)], none⟩,
 ⟨(some 17), .call f_prim_Copy [(.t 12), (.t 13), (.t 14), (.t 16)], none⟩,
 ⟨(some 8), .mv (.t 17), none⟩] [(3, (3, 8))])
 .ret)) }
def c_moves_text : Fun := { cin := [.id, .id], cout := [(.sl 1 .id), .id], ntmps := 10, keep := false, res := [(4, none), (5, none)], body :=
 (.seq (.reg [⟨(some 4), .mv (.c .nsl), none⟩,
 ⟨(some 5), .mv (.c (.i .i64 0)), none⟩])
 (.seq (.seq (.reg [⟨(some 6), .mv (.t 1), none⟩,
 ⟨(some 7), .build [(.i .u8 0), (.s []), .nsl, .nsl] [(0, 1, (.c (.i .u8 3))), (1, 1, (.t 6))], none⟩,
 ⟨(some 8), .call f_ftree_Well [(.t 7)], none⟩,
 ⟨(some 9), .un .not (.t 8), none⟩])
 (.cond (.t 9)
 (.seq (.reg [⟨(some 4), .mv (.c .nsl), none⟩,
 ⟨(some 5), .mv (.c (.i .i64 4)), none⟩])
 .ret)
 .skip))
 (.seq (.reg [⟨(some 4), .mv (.c .nsl), none⟩,
 ⟨(some 5), .mv (.c (.i .i64 0)), none⟩])
 .ret))) }
def c_moves_link : Fun := { cin := [.id, .id, (.sl 1 .id), (.sl 1 .id)], cout := [.id], ntmps := 40, keep := false, res := [(8, none)], body :=
 (.seq (.reg [⟨(some 8), .mv (.c (.i .i64 0)), none⟩])
 (.seq (.seq (.reg [⟨(some 10), .mv (.t 0), none⟩,
 ⟨(some 11), .nck (.t 10), none⟩,
 ⟨(some 12), .fa 2 (.t 11), none⟩,
 ⟨(some 13), .ld true 2 (.t 12), none⟩,
 ⟨(some 14), .call f_opts_Opts_Has [(.t 13), (.c (.i .u8 102))], none⟩,
 ⟨(some 15), .mv (.t 14), none⟩,
 ⟨(some 16), .mv (.t 0), (some (15, true))⟩,
 ⟨(some 17), .nck (.t 16), (some (15, true))⟩,
 ⟨(some 18), .fa 0 (.t 17), (some (15, true))⟩,
 ⟨(some 19), .ld false 1 (.t 18), (some (15, true))⟩,
 ⟨(some 20), .mv (.t 3), (some (15, true))⟩,
 ⟨(some 21), .inv [(17, f_internal_abi_Type_Kind), (29, f_ftree_Tree_Kind), (216, f_sym_Tree_Kind)] (.t 19) [(.t 20)], (some (15, true))⟩,
 ⟨(some 22), .bin .neq (.t 21) (.c (.i .u8 0)), (some (15, true))⟩,
 ⟨(some 23), .pick (.t 15) (.t 22) (.c (.b false)), none⟩])
 (.cond (.t 23)
 (.seq (.reg [⟨(some 24), .mv (.t 0), none⟩,
 ⟨(some 25), .nck (.t 24), none⟩,
 ⟨(some 26), .fa 0 (.t 25), none⟩,
 ⟨(some 27), .ld false 1 (.t 26), none⟩,
 ⟨(some 28), .mv (.t 3), none⟩,
 ⟨(some 29), .call f_prim_Unlink [(.t 27), (.t 28)], none⟩,
 ⟨(some 9), .mv (.t 29), none⟩])
 (.seq (.reg [⟨(some 30), .mv (.t 9), none⟩,
 ⟨(some 31), .bin .neq (.t 30) (.c (.i .i64 0)), none⟩])
 (.cond (.t 31)
 (.seq (.reg [⟨(some 32), .mv (.t 9), none⟩,
 ⟨(some 8), .mv (.t 32), none⟩])
 .ret)
 .skip)))
 .skip))
 (.seq (.reg [⟨(some 33), .mv (.t 0), none⟩,
 ⟨(some 34), .nck (.t 33), none⟩,
 ⟨(some 35), .fa 0 (.t 34), none⟩,
 ⟨(some 36), .ld false 1 (.t 35), none⟩,
 ⟨(some 37), .mv (.t 3), none⟩,
 ⟨(some 38), .mv (.t 1), none⟩,
 ⟨(some 39), .call f_prim_MakeLink [(.t 36), (.t 37), (.t 38)], none⟩,
 ⟨(some 8), .mv (.t 39), none⟩])
 .ret))) }
def c_moves_call_lost : Fun := { cin := [.id, (.agg [.id, .id, .id, .id, .id, .id])], cout := [.id], ntmps := 38, keep := false, res := [(4, none)], body :=
 (.seq (.reg [⟨(some 3), .box 128 6 (.t 1), none⟩,
 ⟨(some 4), .mv (.c (.b false)), none⟩])
 (.seq (.regD [⟨(some 9), .mv (.t 0), none⟩,
 ⟨(some 10), .nck (.t 9), none⟩,
 ⟨(some 11), .fa 0 (.t 10), none⟩,
 ⟨(some 12), .ld false 1 (.t 11), none⟩,
 ⟨(some 13), .mv (.t 0), none⟩,
 ⟨(some 14), .nck (.t 13), none⟩,
 ⟨(some 15), .fa 5 (.t 14), none⟩,
 ⟨(some 16), .ld false 1 (.t 15), none⟩,
 ⟨(some 17), .call f_walk_Spot [(.t 12), (.t 16)], none⟩,
 ⟨(some 8), .mv (.t 17), none⟩,
 ⟨(some 18), .ext (.t 8) 0, none⟩,
 ⟨(some 19), .ext (.t 8) 1, none⟩,
 ⟨(some 20), .ext (.t 8) 2, none⟩,
 ⟨(some 5), .mv (.t 18), none⟩,
 ⟨(some 6), .mv (.t 19), none⟩,
 ⟨(some 7), .mv (.t 20), none⟩] [])
 (.seq (.reg [⟨(some 21), .mv (.t 0), none⟩,
 ⟨(some 22), .nck (.t 21), none⟩,
 ⟨(some 23), .fa 5 (.t 22), none⟩,
 ⟨(some 24), .ld false 1 (.t 23), none⟩,
 ⟨(some 25), .call f_path_Dir [(.t 24)], none⟩,
 ⟨(some 26), .mv (.t 25), none⟩,
 ⟨(some 27), .fa 2 (.t 3), (some (26, false))⟩,
 ⟨(some 28), .ld false 1 (.t 27), (some (26, false))⟩,
 ⟨(some 29), .mv (.t 28), (some (26, false))⟩,
 ⟨(some 30), .mv (.t 7), (some (29, true))⟩,
 ⟨(some 31), .bin .eql (.t 30) (.c (.i .i64 0)), (some (29, true))⟩,
 ⟨(some 32), .pick (.t 29) (.t 31) (.c (.b false)), (some (26, false))⟩,
 ⟨(some 33), .mv (.t 32), (some (26, false))⟩,
 ⟨(some 34), .mv (.t 6), (some (33, true))⟩,
 ⟨(some 35), .bin .eql (.t 34) (.c (.i .u8 3)), (some (33, true))⟩,
 ⟨(some 36), .pick (.t 33) (.t 35) (.c (.b false)), (some (26, false))⟩,
 ⟨(some 37), .pick (.t 26) (.c (.b true)) (.t 36), none⟩,
 ⟨(some 4), .mv (.t 37), none⟩])
 .ret))) }
def c_moves_call_to : Fun := { cin := [.id, (.agg [.id, .id, .id, .id, .id, .id]), .id], cout := [(.sl 1 .id), .id], ntmps := 44, keep := false, res := [(6, none), (7, none)], body :=
 (.seq (.reg [⟨(some 4), .box 128 6 (.t 1), none⟩,
 ⟨(some 6), .mv (.c .nsl), none⟩,
 ⟨(some 7), .mv (.c (.i .i64 0)), none⟩])
 (.seq (.seq (.reg [⟨(some 11), .mv (.t 0), none⟩,
 ⟨(some 12), .nck (.t 11), none⟩,
 ⟨(some 13), .fa 7 (.t 12), none⟩,
 ⟨(some 14), .ld false 1 (.t 13), none⟩,
 ⟨(some 15), .bin .neq (.t 14) (.c (.i .u8 2)), none⟩])
 (.cond (.t 15)
 (.seq (.reg [⟨(some 16), .fa 4 (.t 4), none⟩,
 ⟨(some 17), .ld false 1 (.t 16), none⟩,
 ⟨(some 18), .mv (.t 0), none⟩,
 ⟨(some 19), .callX (.t 17) [(.t 18)], none⟩,
 ⟨(some 20), .ext (.t 19) 0, none⟩,
 ⟨(some 21), .ext (.t 19) 1, none⟩,
 ⟨(some 6), .mv (.t 20), none⟩,
 ⟨(some 7), .mv (.t 21), none⟩])
 .ret)
 .skip))
 (.seq (.reg [⟨(some 23), .mv (.t 2), none⟩,
 ⟨(some 24), .call f_path_Last [(.t 23)], none⟩,
 ⟨(some 22), .mv (.t 24), none⟩,
 ⟨(some 25), .ext (.t 22) 0, none⟩,
 ⟨(some 26), .ext (.t 22) 1, none⟩,
 ⟨(some 8), .mv (.t 25), none⟩,
 ⟨(some 9), .mv (.t 26), none⟩])
 (.seq (.seq (.reg [⟨(some 27), .mv (.t 9), none⟩,
 ⟨(some 28), .un .not (.t 27), none⟩])
 (.cond (.t 28)
 (.seq (.reg [⟨(some 6), .mv (.c .nsl), none⟩,
 ⟨(some 7), .mv (.c (.i .i64 4)), none⟩])
 .ret)
 .skip))
 (.seq (.reg [⟨(some 29), .mv (.t 0), none⟩,
 ⟨(some 30), .nck (.t 29), none⟩,
 ⟨(some 31), .fa 6 (.t 30), none⟩,
 ⟨(some 32), .ld false 1 (.t 31), none⟩,
 ⟨(some 33), .len 1 (.t 32), none⟩,
 ⟨(some 10), .mv (.t 33), none⟩])
 (.seq (.reg [⟨(some 34), .mv (.t 0), none⟩,
 ⟨(some 35), .nck (.t 34), none⟩,
 ⟨(some 36), .fa 6 (.t 35), none⟩,
 ⟨(some 37), .ld false 1 (.t 36), none⟩,
 ⟨(some 38), .mv (.t 10), none⟩,
 ⟨(some 39), .mv (.t 10), none⟩,
 ⟨(some 40), .slc false 1 (.t 37) none (some (.t 38)) (some (.t 39)), none⟩,
 ⟨(some 41), .mv (.t 8), none⟩,
 ⟨(some 42), .bsl 1 [(.t 41)], none⟩,
 ⟨(some 43), .app 1 9 (.t 40) (.t 42), none⟩,
 ⟨(some 6), .mv (.t 43), none⟩,
 ⟨(some 7), .mv (.c (.i .i64 0)), none⟩])
 .ret)))))) }
def c_strings_TrimRight : Fun := { cin := [.id, .id], cout := [.id], ntmps := 37, keep := false, res := [(4, none)], body :=
 (.seq (.reg [⟨(some 4), .mv (.c (.s [])), none⟩])
 (.seq (.seq (.reg [⟨(some 7), .mv (.t 0), none⟩,
 ⟨(some 8), .bin .eql (.t 7) (.c (.s [])), none⟩,
 ⟨(some 9), .mv (.t 8), none⟩,
 ⟨(some 10), .mv (.t 1), (some (9, false))⟩,
 ⟨(some 11), .bin .eql (.t 10) (.c (.s [])), (some (9, false))⟩,
 ⟨(some 12), .pick (.t 9) (.c (.b true)) (.t 11), none⟩])
 (.cond (.t 12)
 (.seq (.reg [⟨(some 13), .mv (.t 0), none⟩,
 ⟨(some 4), .mv (.t 13), none⟩])
 .ret)
 .skip))
 (.seq (.seq (.reg [⟨(some 14), .mv (.t 1), none⟩,
 ⟨(some 15), .len 0 (.t 14), none⟩,
 ⟨(some 16), .bin .eql (.t 15) (.c (.i .i64 1)), none⟩,
 ⟨(some 17), .mv (.t 16), none⟩,
 ⟨(some 18), .mv (.t 1), (some (17, true))⟩,
 ⟨(some 19), .ixS (.t 18) (.c (.i .i64 0)), (some (17, true))⟩,
 ⟨(some 20), .bin .lss (.t 19) (.c (.i .u8 128)), (some (17, true))⟩,
 ⟨(some 21), .pick (.t 17) (.t 20) (.c (.b false)), none⟩])
 (.cond (.t 21)
 (.seq (.reg [⟨(some 22), .mv (.t 0), none⟩,
 ⟨(some 23), .mv (.t 1), none⟩,
 ⟨(some 24), .ixS (.t 23) (.c (.i .i64 0)), none⟩,
 ⟨(some 25), .call f_strings_trimRightByte [(.t 22), (.t 24)], none⟩,
 ⟨(some 4), .mv (.t 25), none⟩])
 .ret)
 .skip))
 (.seq (.seq (.reg [⟨(some 27), .mv (.t 1), none⟩,
 ⟨(some 28), .call f_strings_makeASCIISet [(.t 27)], none⟩,
 ⟨(some 26), .mv (.t 28), none⟩,
 ⟨(some 29), .ext (.t 26) 0, none⟩,
 ⟨(some 30), .ext (.t 26) 1, none⟩,
 ⟨(some 5), .alloc 242 [(.b false), (.b false), (.b false), (.b false), (.b false), (.b false), (.b false), (.b false), (.b false), (.b false), (.b false), (.b false), (.b false), (.b false), (.b false), (.b false), (.b false), (.b false), (.b false), (.b false), (.b false), (.b false), (.b false), (.b false), (.b false), (.b false), (.b false), (.b false), (.b false), (.b false), (.b false), (.b false), (.b false), (.b false), (.b false), (.b false), (.b false), (.b false), (.b false), (.b false), (.b false), (.b false), (.b false), (.b false), (.b false), (.b false), (.b false), (.b false), (.b false), (.b false), (.b false), (.b false), (.b false), (.b false), (.b false), (.b false), (.b false), (.b false), (.b false), (.b false), (.b false), (.b false), (.b false), (.b false), (.b false), (.b false), (.b false), (.b false), (.b false), (.b false), (.b false), (.b false), (.b false), (.b false), (.b false), (.b false), (.b false), (.b false), (.b false), (.b false), (.b false), (.b false), (.b false), (.b false), (.b false), (.b false), (.b false), (.b false), (.b false), (.b false), (.b false), (.b false), (.b false), (.b false), (.b false), (.b false), (.b false), (.b false), (.b false), (.b false), (.b false), (.b false), (.b false), (.b false), (.b false), (.b false), (.b false), (.b false), (.b false), (.b false), (.b false), (.b false), (.b false), (.b false), (.b false), (.b false), (.b false), (.b false), (.b false), (.b false), (.b false), (.b false), (.b false), (.b false), (.b false), (.b false), (.b false), (.b false), (.b false), (.b false), (.b false), (.b false), (.b false), (.b false), (.b false), (.b false), (.b false), (.b false), (.b false), (.b false), (.b false), (.b false), (.b false), (.b false), (.b false), (.b false), (.b false), (.b false), (.b false), (.b false), (.b false), (.b false), (.b false), (.b false), (.b false), (.b false), (.b false), (.b false), (.b false), (.b false), (.b false), (.b false), (.b false), (.b false), (.b false), (.b false), (.b false), (.b false), (.b false), (.b false), (.b false), (.b false), (.b false), (.b false), (.b false), (.b false), (.b false), (.b false), (.b false), (.b false), (.b false), (.b false), (.b false), (.b false), (.b false), (.b false), (.b false), (.b false), (.b false), (.b false), (.b false), (.b false), (.b false), (.b false), (.b false), (.b false), (.b false), (.b false), (.b false), (.b false), (.b false), (.b false), (.b false), (.b false), (.b false), (.b false), (.b false), (.b false), (.b false), (.b false), (.b false), (.b false), (.b false), (.b false), (.b false), (.b false), (.b false), (.b false), (.b false), (.b false), (.b false), (.b false), (.b false), (.b false), (.b false), (.b false), (.b false), (.b false), (.b false), (.b false), (.b false), (.b false), (.b false), (.b false), (.b false), (.b false), (.b false), (.b false), (.b false), (.b false), (.b false), (.b false), (.b false), (.b false), (.b false), (.b false), (.b false), (.b false), (.b false), (.b false), (.b false), (.b false), (.b false), (.b false), (.b false), (.b false)], none⟩,
 ⟨none, .st 256 (.t 5) (.t 29), none⟩,
 ⟨(some 6), .mv (.t 30), none⟩])
 (.seq (.reg [⟨(some 31), .mv (.t 6), none⟩])
 (.cond (.t 31)
 (.seq (.reg [⟨(some 32), .mv (.t 0), none⟩,
 ⟨(some 33), .call f_strings_trimRightASCII [(.t 32), (.t 5)], none⟩,
 ⟨(some 4), .mv (.t 33), none⟩])
 .ret)
 .skip)))
 (.seq (.reg [⟨(some 34), .mv (.t 0), none⟩,
 ⟨(some 35), .mv (.t 1), none⟩,
 ⟨(some 36), .call f_strings_trimRightUnicode [(.t 34), (.t 35)], none⟩,
 ⟨(some 4), .mv (.t 36), none⟩])
 .ret))))) }
def c_strings_LastIndexByte : Fun := { cin := [.id, .id], cout := [.id], ntmps := 8, keep := false, res := [(4, none)], body :=
 (.seq (.reg [⟨(some 4), .mv (.c (.i .i64 0)), none⟩])
 (.seq (.reg [⟨(some 5), .mv (.t 0), none⟩,
 ⟨(some 6), .mv (.t 1), none⟩,
 ⟨(some 7), .call f_internal_bytealg_LastIndexByteString [(.t 5), (.t 6)], none⟩,
 ⟨(some 4), .mv (.t 7), none⟩])
 .ret)) }
def c_slices_BinarySearch_string_string : Fun := { cin := [(.sl 1 .id), .id], cout := [.id, .id], ntmps := 54, keep := false, res := [(4, none), (5, none)], body :=
 (.seq (.reg [⟨(some 4), .mv (.c (.i .i64 0)), none⟩,
 ⟨(some 5), .mv (.c (.b false)), none⟩])
 (.seq (.reg [⟨(some 10), .mv (.t 0), none⟩,
 ⟨(some 11), .len 1 (.t 10), none⟩,
 ⟨(some 6), .mv (.t 11), none⟩])
 (.seq (.reg [⟨(some 12), .mv (.t 6), none⟩,
 ⟨(some 7), .mv (.c (.i .i64 0)), none⟩,
 ⟨(some 8), .mv (.t 12), none⟩])
 (.seq (.blk 0 (.loop (.seq (.seq (.reg [⟨(some 13), .mv (.t 7), none⟩,
 ⟨(some 14), .mv (.t 8), none⟩,
 ⟨(some 15), .bin .lss (.t 13) (.t 14), none⟩])
 (.cond (.t 15)
 .skip
 (.exit 0)))
 (.blk 1 (.seq (.reg [⟨(some 16), .mv (.t 7), none⟩,
 ⟨(some 17), .mv (.t 8), none⟩,
 ⟨(some 18), .bin .add (.t 16) (.t 17), none⟩,
 ⟨(some 19), .cvI .u64 (.t 18), none⟩,
 ⟨(some 20), .bin .shr (.t 19) (.c (.i .u64 1)), none⟩,
 ⟨(some 21), .cvI .i64 (.t 20), none⟩,
 ⟨(some 9), .mv (.t 21), none⟩])
 (.seq (.reg [⟨(some 22), .mv (.t 0), none⟩,
 ⟨(some 23), .mv (.t 9), none⟩,
 ⟨(some 24), .ia 1 (.t 22) (.t 23), none⟩,
 ⟨(some 25), .ld false 1 (.t 24), none⟩,
 ⟨(some 26), .mv (.t 1), none⟩,
 ⟨(some 27), .call f_cmp_Less_string [(.t 25), (.t 26)], none⟩])
 (.cond (.t 27)
 (.reg [⟨(some 28), .mv (.t 9), none⟩,
 ⟨(some 29), .bin .add (.t 28) (.c (.i .i64 1)), none⟩,
 ⟨(some 7), .mv (.t 29), none⟩])
 (.reg [⟨(some 30), .mv (.t 9), none⟩,
 ⟨(some 8), .mv (.t 30), none⟩]))))))))
 (.seq (.reg [⟨(some 31), .mv (.t 7), none⟩,
 ⟨(some 32), .mv (.t 7), none⟩,
 ⟨(some 33), .mv (.t 6), none⟩,
 ⟨(some 34), .bin .lss (.t 32) (.t 33), none⟩,
 ⟨(some 35), .mv (.t 34), none⟩,
 ⟨(some 36), .mv (.t 0), (some (35, true))⟩,
 ⟨(some 37), .mv (.t 7), (some (35, true))⟩,
 ⟨(some 38), .ia 1 (.t 36) (.t 37), (some (35, true))⟩,
 ⟨(some 39), .ld false 1 (.t 38), (some (35, true))⟩,
 ⟨(some 40), .mv (.t 1), (some (35, true))⟩,
 ⟨(some 41), .bin .eql (.t 39) (.t 40), (some (35, true))⟩,
 ⟨(some 42), .mv (.t 41), (some (35, true))⟩,
 ⟨(some 43), .mv (.t 0), (some (42, false))⟩,
 ⟨(some 44), .mv (.t 7), (some (42, false))⟩,
 ⟨(some 45), .ia 1 (.t 43) (.t 44), (some (42, false))⟩,
 ⟨(some 46), .ld false 1 (.t 45), (some (42, false))⟩,
 ⟨(some 47), .call f_slices_isNaN_string [(.t 46)], (some (42, false))⟩,
 ⟨(some 48), .mv (.t 47), (some (42, false))⟩,
 ⟨(some 49), .mv (.t 1), (some (48, true))⟩,
 ⟨(some 50), .call f_slices_isNaN_string [(.t 49)], (some (48, true))⟩,
 ⟨(some 51), .pick (.t 48) (.t 50) (.c (.b false)), (some (42, false))⟩,
 ⟨(some 52), .pick (.t 42) (.c (.b true)) (.t 51), (some (35, true))⟩,
 ⟨(some 53), .pick (.t 35) (.t 52) (.c (.b false)), none⟩,
 ⟨(some 4), .mv (.t 31), none⟩,
 ⟨(some 5), .mv (.t 53), none⟩])
 .ret))))) }
def c_strings_HasPrefix : Fun := { cin := [.id, .id], cout := [.id], ntmps := 8, keep := false, res := [(4, none)], body :=
 (.seq (.reg [⟨(some 4), .mv (.c (.b false)), none⟩])
 (.seq (.reg [⟨(some 5), .mv (.t 0), none⟩,
 ⟨(some 6), .mv (.t 1), none⟩,
 ⟨(some 7), .call f_internal_stringslite_HasPrefix [(.t 5), (.t 6)], none⟩,
 ⟨(some 4), .mv (.t 7), none⟩])
 .ret)) }
def c_pat_dir : Fun := { cin := [(.agg [.id, .id, (.sl 1 .id), (.sl 1 .id), .id, .id])], cout := [.id], ntmps := 10, keep := false, res := [(2, none)], body :=
 (.seq (.reg [⟨(some 1), .box 84 6 (.t 0), none⟩,
 ⟨(some 2), .mv (.c (.b false)), none⟩])
 (.seq (.reg [⟨(some 3), .fa 0 (.t 1), none⟩,
 ⟨(some 4), .ld false 1 (.t 3), none⟩,
 ⟨(some 5), .mv (.t 4), none⟩,
 ⟨(some 6), .fa 1 (.t 1), (some (5, true))⟩,
 ⟨(some 7), .ld false 1 (.t 6), (some (5, true))⟩,
 ⟨(some 8), .bin .eql (.t 7) (.c (.i .u8 2)), (some (5, true))⟩,
 ⟨(some 9), .pick (.t 5) (.t 8) (.c (.b false)), none⟩,
 ⟨(some 2), .mv (.t 9), none⟩])
 .ret)) }
def c_pat_one : Fun := { cin := [(.agg [.id, .id, (.sl 1 .id), (.sl 1 .id), .id, .id])], cout := [.id], ntmps := 99, keep := false, res := [(2, none)], body :=
 (.seq (.reg [⟨(some 1), .box 84 6 (.t 0), none⟩,
 ⟨(some 2), .mv (.c (.b false)), none⟩])
 (.seq (.blk 0 (.seq (.reg [⟨(some 6), .fa 1 (.t 1), none⟩,
 ⟨(some 7), .ld false 1 (.t 6), none⟩,
 ⟨(some 8), .bin .gtr (.t 7) (.c (.i .u8 3)), none⟩,
 ⟨(some 9), .mv (.t 8), none⟩,
 ⟨(some 10), .fa 0 (.t 1), (some (9, false))⟩,
 ⟨(some 11), .ld false 1 (.t 10), (some (9, false))⟩,
 ⟨(some 12), .un .not (.t 11), (some (9, false))⟩,
 ⟨(some 13), .mv (.t 12), (some (9, false))⟩,
 ⟨(some 14), .fa 1 (.t 1), (some (13, true))⟩,
 ⟨(some 15), .ld false 1 (.t 14), (some (13, true))⟩,
 ⟨(some 16), .bin .neq (.t 15) (.c (.i .u8 0)), (some (13, true))⟩,
 ⟨(some 17), .pick (.t 13) (.t 16) (.c (.b false)), (some (9, false))⟩,
 ⟨(some 18), .pick (.t 9) (.c (.b true)) (.t 17), none⟩,
 ⟨(some 19), .mv (.t 18), none⟩,
 ⟨(some 20), .fa 2 (.t 1), (some (19, false))⟩,
 ⟨(some 21), .ld false 1 (.t 20), (some (19, false))⟩,
 ⟨(some 22), .len 1 (.t 21), (some (19, false))⟩,
 ⟨(some 23), .fa 3 (.t 1), (some (19, false))⟩,
 ⟨(some 24), .ld false 1 (.t 23), (some (19, false))⟩,
 ⟨(some 25), .len 1 (.t 24), (some (19, false))⟩,
 ⟨(some 26), .bin .neq (.t 22) (.t 25), (some (19, false))⟩,
 ⟨(some 27), .pick (.t 19) (.c (.b true)) (.t 26), none⟩,
 ⟨(some 5), .mv (.t 27), none⟩])
 (.cond (.t 5)
 (.seq (.reg [⟨(some 2), .mv (.c (.b false)), none⟩])
 .ret)
 (.seq (.reg [⟨(some 29), .ld true 6 (.t 1), none⟩,
 ⟨(some 30), .call f_pat_dir [(.t 29)], none⟩,
 ⟨(some 31), .un .not (.t 30), none⟩,
 ⟨(some 28), .mv (.t 31), none⟩])
 (.cond (.t 28)
 (.seq (.reg [⟨(some 32), .fa 2 (.t 1), none⟩,
 ⟨(some 33), .ld false 1 (.t 32), none⟩,
 ⟨(some 34), .len 1 (.t 33), none⟩,
 ⟨(some 35), .bin .eql (.t 34) (.c (.i .i64 0)), none⟩,
 ⟨(some 36), .mv (.t 35), none⟩,
 ⟨(some 37), .fa 4 (.t 1), (some (36, true))⟩,
 ⟨(some 38), .ld false 1 (.t 37), (some (36, true))⟩,
 ⟨(some 39), .bin .eql (.t 38) (.c (.i .i64 0)), (some (36, true))⟩,
 ⟨(some 40), .pick (.t 36) (.t 39) (.c (.b false)), none⟩,
 ⟨(some 41), .mv (.t 40), none⟩,
 ⟨(some 42), .fa 5 (.t 1), (some (41, true))⟩,
 ⟨(some 43), .ld false 1 (.t 42), (some (41, true))⟩,
 ⟨(some 44), .bin .eql (.t 43) (.c (.i .i64 0)), (some (41, true))⟩,
 ⟨(some 45), .pick (.t 41) (.t 44) (.c (.b false)), none⟩,
 ⟨(some 2), .mv (.t 45), none⟩])
 .ret)
 .skip)))))
 (.seq (.seq (.reg [⟨(some 46), .fa 2 (.t 1), none⟩,
 ⟨(some 47), .ld false 1 (.t 46), none⟩,
 ⟨(some 48), .len 1 (.t 47), none⟩,
 ⟨(some 49), .mv (.c (.i .i64 0)), none⟩])
 (.blk 1 (.loop (.seq (.reg [⟨(some 50), .bin .lss (.t 49) (.t 48), none⟩])
 (.seq (.cond (.t 50)
 .skip
 (.exit 1))
 (.seq (.blk 2 (.seq (.reg [⟨(some 51), .mv (.t 49), none⟩,
 ⟨(some 52), .ia 1 (.t 47) (.t 49), none⟩,
 ⟨(some 53), .ld false 1 (.t 52), none⟩,
 ⟨(some 3), .mv (.t 51), none⟩,
 ⟨(some 4), .mv (.t 53), none⟩])
 (.seq (.reg [⟨(some 54), .mv (.t 4), none⟩,
 ⟨(some 55), .call f_path_Name [(.t 54)], none⟩,
 ⟨(some 56), .un .not (.t 55), none⟩,
 ⟨(some 57), .mv (.t 56), none⟩,
 ⟨(some 58), .mv (.t 3), (some (57, false))⟩,
 ⟨(some 59), .bin .gtr (.t 58) (.c (.i .i64 0)), (some (57, false))⟩,
 ⟨(some 60), .mv (.t 59), (some (57, false))⟩,
 ⟨(some 61), .mv (.t 4), (some (60, true))⟩,
 ⟨(some 62), .fa 2 (.t 1), (some (60, true))⟩,
 ⟨(some 63), .ld false 1 (.t 62), (some (60, true))⟩,
 ⟨(some 64), .mv (.t 3), (some (60, true))⟩,
 ⟨(some 65), .bin .sub (.t 64) (.c (.i .i64 1)), (some (60, true))⟩,
 ⟨(some 66), .ia 1 (.t 63) (.t 65), (some (60, true))⟩,
 ⟨(some 67), .ld false 1 (.t 66), (some (60, true))⟩,
 ⟨(some 68), .bin .leq (.t 61) (.t 67), (some (60, true))⟩,
 ⟨(some 69), .pick (.t 60) (.t 68) (.c (.b false)), (some (57, false))⟩,
 ⟨(some 70), .pick (.t 57) (.c (.b true)) (.t 69), none⟩])
 (.cond (.t 70)
 (.seq (.reg [⟨(some 2), .mv (.c (.b false)), none⟩])
 .ret)
 .skip))))
 (.reg [⟨(some 71), .bin .add (.t 49) (.c (.i .i64 1)), none⟩,
 ⟨(some 49), .mv (.t 71), none⟩])))))))
 (.seq (.seq (.reg [⟨(some 72), .fa 4 (.t 1), none⟩,
 ⟨(some 73), .ld false 1 (.t 72), none⟩,
 ⟨(some 74), .bin .eql (.t 73) (.c (.i .i64 2)), none⟩])
 (.cond (.t 74)
 (.seq (.reg [⟨(some 75), .fa 5 (.t 1), none⟩,
 ⟨(some 76), .ld false 1 (.t 75), none⟩,
 ⟨(some 77), .bin .geq (.t 76) (.c (.i .i64 0)), none⟩,
 ⟨(some 78), .mv (.t 77), none⟩,
 ⟨(some 79), .fa 5 (.t 1), (some (78, true))⟩,
 ⟨(some 80), .ld false 1 (.t 79), (some (78, true))⟩,
 ⟨(some 81), .fa 2 (.t 1), (some (78, true))⟩,
 ⟨(some 82), .ld false 1 (.t 81), (some (78, true))⟩,
 ⟨(some 83), .len 1 (.t 82), (some (78, true))⟩,
 ⟨(some 84), .bin .leq (.t 80) (.t 83), (some (78, true))⟩,
 ⟨(some 85), .pick (.t 78) (.t 84) (.c (.b false)), none⟩,
 ⟨(some 2), .mv (.t 85), none⟩])
 .ret)
 .skip))
 (.seq (.reg [⟨(some 86), .fa 4 (.t 1), none⟩,
 ⟨(some 87), .ld false 1 (.t 86), none⟩,
 ⟨(some 88), .bin .eql (.t 87) (.c (.i .i64 0)), none⟩,
 ⟨(some 89), .mv (.t 88), none⟩,
 ⟨(some 90), .fa 4 (.t 1), (some (89, false))⟩,
 ⟨(some 91), .ld false 1 (.t 90), (some (89, false))⟩,
 ⟨(some 92), .bin .eql (.t 91) (.c (.i .i64 1)), (some (89, false))⟩,
 ⟨(some 93), .pick (.t 89) (.c (.b true)) (.t 92), none⟩,
 ⟨(some 94), .mv (.t 93), none⟩,
 ⟨(some 95), .fa 5 (.t 1), (some (94, true))⟩,
 ⟨(some 96), .ld false 1 (.t 95), (some (94, true))⟩,
 ⟨(some 97), .bin .eql (.t 96) (.c (.i .i64 0)), (some (94, true))⟩,
 ⟨(some 98), .pick (.t 94) (.t 97) (.c (.b false)), none⟩,
 ⟨(some 2), .mv (.t 98), none⟩])
 .ret))))) }
def c_slices_ContainsFunc_int_int : Fun := { cin := [(.sl 1 .id), .id], cout := [.id], ntmps := 9, keep := false, res := [(4, none)], body :=
 (.seq (.reg [⟨(some 4), .mv (.c (.b false)), none⟩])
 (.seq (.reg [⟨(some 5), .mv (.t 0), none⟩,
 ⟨(some 6), .mv (.t 1), none⟩,
 ⟨(some 7), .call f_slices_IndexFunc_int_int [(.t 5), (.t 6)], none⟩,
 ⟨(some 8), .bin .geq (.t 7) (.c (.i .i64 0)), none⟩,
 ⟨(some 4), .mv (.t 8), none⟩])
 .ret)) }
def c_pat_May_1 : Fun := { cin := [.id], cout := [.id], ntmps := 5, keep := false, res := [(2, none)], body :=
 (.seq (.reg [⟨(some 2), .mv (.c (.b false)), none⟩])
 (.seq (.reg [⟨(some 3), .mv (.t 0), none⟩,
 ⟨(some 4), .bin .neq (.t 3) (.c (.i .i64 1)), none⟩,
 ⟨(some 2), .mv (.t 4), none⟩])
 .ret)) }
def c_prim_Unlink : Fun := { cin := [.id, (.sl 1 .id)], cout := [.id], ntmps := 8, keep := false, res := [(4, none)], body :=
 (.seq (.reg [⟨(some 4), .mv (.c (.i .i64 0)), none⟩])
 (.seq (.reg [⟨(some 5), .mv (.t 0), none⟩,
 ⟨(some 6), .mv (.t 1), none⟩,
 ⟨(some 7), .call f_prim_remove [(.t 5), (.t 6), (.c (.fn f_prim_Unlink_1 []))], none⟩,
 ⟨(some 4), .mv (.t 7), none⟩])
 .ret)) }
def c_strings_IndexAny : Fun := { cin := [.id, .id], cout := [.id], ntmps := 55, keep := false, res := [(4, none)], body :=
 (.seq (.reg [⟨(some 4), .mv (.c (.i .i64 0)), none⟩])
 (.seq (.seq (.reg [⟨(some 11), .mv (.t 1), none⟩,
 ⟨(some 12), .bin .eql (.t 11) (.c (.s [])), none⟩])
 (.cond (.t 12)
 (.seq (.reg [⟨(some 4), .mv (.c (.i .i64 (-1))), none⟩])
 .ret)
 .skip))
 (.seq (.seq (.reg [⟨(some 13), .mv (.t 1), none⟩,
 ⟨(some 14), .len 0 (.t 13), none⟩,
 ⟨(some 15), .bin .eql (.t 14) (.c (.i .i64 1)), none⟩])
 (.cond (.t 15)
 (.seq (.reg [⟨(some 16), .mv (.t 1), none⟩,
 ⟨(some 17), .ixS (.t 16) (.c (.i .i64 0)), none⟩,
 ⟨(some 18), .cvI .i32 (.t 17), none⟩,
 ⟨(some 5), .mv (.t 18), none⟩])
 (.seq (.seq (.reg [⟨(some 19), .mv (.t 5), none⟩,
 ⟨(some 20), .bin .geq (.t 19) (.c (.i .i32 128)), none⟩])
 (.cond (.t 20)
 (.reg [⟨(some 5), .mv (.c (.i .i32 65533)), none⟩])
 .skip))
 (.seq (.reg [⟨(some 21), .mv (.t 0), none⟩,
 ⟨(some 22), .mv (.t 5), none⟩,
 ⟨(some 23), .call f_strings_IndexRune [(.t 21), (.t 22)], none⟩,
 ⟨(some 4), .mv (.t 23), none⟩])
 .ret)))
 .skip))
 (.seq (.seq (.reg [⟨(some 24), .mv (.t 0), none⟩,
 ⟨(some 25), .len 0 (.t 24), none⟩,
 ⟨(some 26), .call f_strings_shouldUseASCIISet [(.t 25)], none⟩])
 (.cond (.t 26)
 (.seq (.reg [⟨(some 28), .mv (.t 1), none⟩,
 ⟨(some 29), .call f_strings_makeASCIISet [(.t 28)], none⟩,
 ⟨(some 27), .mv (.t 29), none⟩,
 ⟨(some 30), .ext (.t 27) 0, none⟩,
 ⟨(some 31), .ext (.t 27) 1, none⟩,
 ⟨(some 6), .alloc 242 [(.b false), (.b false), (.b false), (.b false), (.b false), (.b false), (.b false), (.b false), (.b false), (.b false), (.b false), (.b false), (.b false), (.b false), (.b false), (.b false), (.b false), (.b false), (.b false), (.b false), (.b false), (.b false), (.b false), (.b false), (.b false), (.b false), (.b false), (.b false), (.b false), (.b false), (.b false), (.b false), (.b false), (.b false), (.b false), (.b false), (.b false), (.b false), (.b false), (.b false), (.b false), (.b false), (.b false), (.b false), (.b false), (.b false), (.b false), (.b false), (.b false), (.b false), (.b false), (.b false), (.b false), (.b false), (.b false), (.b false), (.b false), (.b false), (.b false), (.b false), (.b false), (.b false), (.b false), (.b false), (.b false), (.b false), (.b false), (.b false), (.b false), (.b false), (.b false), (.b false), (.b false), (.b false), (.b false), (.b false), (.b false), (.b false), (.b false), (.b false), (.b false), (.b false), (.b false), (.b false), (.b false), (.b false), (.b false), (.b false), (.b false), (.b false), (.b false), (.b false), (.b false), (.b false), (.b false), (.b false), (.b false), (.b false), (.b false), (.b false), (.b false), (.b false), (.b false), (.b false), (.b false), (.b false), (.b false), (.b false), (.b false), (.b false), (.b false), (.b false), (.b false), (.b false), (.b false), (.b false), (.b false), (.b false), (.b false), (.b false), (.b false), (.b false), (.b false), (.b false), (.b false), (.b false), (.b false), (.b false), (.b false), (.b false), (.b false), (.b false), (.b false), (.b false), (.b false), (.b false), (.b false), (.b false), (.b false), (.b false), (.b false), (.b false), (.b false), (.b false), (.b false), (.b false), (.b false), (.b false), (.b false), (.b false), (.b false), (.b false), (.b false), (.b false), (.b false), (.b false), (.b false), (.b false), (.b false), (.b false), (.b false), (.b false), (.b false), (.b false), (.b false), (.b false), (.b false), (.b false), (.b false), (.b false), (.b false), (.b false), (.b false), (.b false), (.b false), (.b false), (.b false), (.b false), (.b false), (.b false), (.b false), (.b false), (.b false), (.b false), (.b false), (.b false), (.b false), (.b false), (.b false), (.b false), (.b false), (.b false), (.b false), (.b false), (.b false), (.b false), (.b false), (.b false), (.b false), (.b false), (.b false), (.b false), (.b false), (.b false), (.b false), (.b false), (.b false), (.b false), (.b false), (.b false), (.b false), (.b false), (.b false), (.b false), (.b false), (.b false), (.b false), (.b false), (.b false), (.b false), (.b false), (.b false), (.b false), (.b false), (.b false), (.b false), (.b false), (.b false), (.b false), (.b false), (.b false), (.b false), (.b false), (.b false), (.b false), (.b false), (.b false), (.b false), (.b false), (.b false), (.b false), (.b false), (.b false), (.b false), (.b false), (.b false), (.b false), (.b false), (.b false), (.b false), (.b false), (.b false), (.b false), (.b false), (.b false), (.b false)], none⟩,
 ⟨none, .st 256 (.t 6) (.t 30), none⟩,
 ⟨(some 7), .mv (.t 31), none⟩])
 (.seq (.reg [⟨(some 32), .mv (.t 7), none⟩])
 (.cond (.t 32)
 (.seq (.seq (.reg [⟨(some 8), .mv (.c (.i .i64 0)), none⟩])
 (.blk 0 (.loop (.seq (.seq (.reg [⟨(some 33), .mv (.t 8), none⟩,
 ⟨(some 34), .mv (.t 0), none⟩,
 ⟨(some 35), .len 0 (.t 34), none⟩,
 ⟨(some 36), .bin .lss (.t 33) (.t 35), none⟩])
 (.cond (.t 36)
 .skip
 (.exit 0)))
 (.seq (.blk 1 (.seq (.reg [⟨(some 39), .mv (.t 0), none⟩,
 ⟨(some 40), .mv (.t 8), none⟩,
 ⟨(some 41), .ixS (.t 39) (.t 40), none⟩,
 ⟨(some 42), .call f_strings_asciiSet_contains [(.t 6), (.t 41)], none⟩])
 (.cond (.t 42)
 (.seq (.reg [⟨(some 43), .mv (.t 8), none⟩,
 ⟨(some 4), .mv (.t 43), none⟩])
 .ret)
 .skip)))
 (.reg [⟨(some 37), .mv (.t 8), none⟩,
 ⟨(some 38), .bin .add (.t 37) (.c (.i .i64 1)), none⟩,
 ⟨(some 8), .mv (.t 38), none⟩]))))))
 (.seq (.reg [⟨(some 4), .mv (.c (.i .i64 (-1))), none⟩])
 .ret))
 .skip)))
 .skip))
 (.seq (.seq (.reg [⟨(some 44), .mv (.t 0), none⟩,
 ⟨(some 45), .siter (.t 44), none⟩])
 (.blk 2 (.loop (.seq (.reg [⟨(some 46), .snext (.t 45), none⟩,
 ⟨(some 47), .ext (.t 46) 0, none⟩])
 (.seq (.cond (.t 47)
 .skip
 (.exit 2))
 (.blk 3 (.seq (.reg [⟨(some 48), .ext (.t 46) 1, none⟩,
 ⟨(some 49), .ext (.t 46) 2, none⟩,
 ⟨(some 9), .mv (.t 48), none⟩,
 ⟨(some 10), .mv (.t 49), none⟩])
 (.seq (.reg [⟨(some 50), .mv (.t 1), none⟩,
 ⟨(some 51), .mv (.t 10), none⟩,
 ⟨(some 52), .call f_strings_IndexRune [(.t 50), (.t 51)], none⟩,
 ⟨(some 53), .bin .geq (.t 52) (.c (.i .i64 0)), none⟩])
 (.cond (.t 53)
 (.seq (.reg [⟨(some 54), .mv (.t 9), none⟩,
 ⟨(some 4), .mv (.t 54), none⟩])
 .ret)
 .skip)))))))))
 (.seq (.reg [⟨(some 4), .mv (.c (.i .i64 (-1))), none⟩])
 .ret)))))) }
def c_slices_Collect_string : Fun := { cin := [.id], cout := [(.sl 1 .id)], ntmps := 5, keep := false, res := [(2, none)], body :=
 (.seq (.reg [⟨(some 2), .mv (.c .nsl), none⟩])
 (.seq (.reg [⟨(some 3), .mv (.t 0), none⟩,
 ⟨(some 4), .call f_slices_AppendSeq_string_string [(.c .nsl), (.t 3)], none⟩,
 ⟨(some 2), .mv (.t 4), none⟩])
 .ret)) }
def c_walk_walker_name : Fun := { cin := [.id, .id], cout := [.id, .id, .id], ntmps := 81, keep := false, res := [(4, none), (5, none), (6, none)], body :=
 (.seq (.reg [⟨(some 4), .mv (.c (.i .u8 0)), none⟩,
 ⟨(some 5), .mv (.c (.b false)), none⟩,
 ⟨(some 6), .mv (.c (.i .i64 0)), none⟩])
 (.seq (.reg [⟨(some 10), .mv (.t 0), none⟩,
 ⟨(some 11), .mv (.t 1), none⟩,
 ⟨(some 12), .call f_walk_walker_below [(.t 10), (.t 11)], none⟩,
 ⟨(some 7), .mv (.t 12), none⟩])
 (.seq (.reg [⟨(some 13), .mv (.t 0), none⟩,
 ⟨(some 14), .nck (.t 13), none⟩,
 ⟨(some 15), .fa 0 (.t 14), none⟩,
 ⟨(some 16), .ld false 1 (.t 15), none⟩,
 ⟨(some 17), .mv (.t 7), none⟩,
 ⟨(some 18), .inv [(17, f_internal_abi_Type_Kind), (29, f_ftree_Tree_Kind), (216, f_sym_Tree_Kind)] (.t 16) [(.t 17)], none⟩,
 ⟨(some 8), .mv (.t 18), none⟩])
 (.seq (.reg [⟨(some 19), .mv (.t 0), none⟩,
 ⟨(some 20), .nck (.t 19), none⟩,
 ⟨(some 21), .fa 2 (.t 20), none⟩,
 ⟨(some 22), .ld false 1 (.t 21), none⟩,
 ⟨(some 23), .len 1 (.t 22), none⟩,
 ⟨(some 24), .bin .eql (.t 23) (.c (.i .i64 0)), none⟩,
 ⟨(some 9), .mv (.t 24), none⟩])
 (.seq (.blk 0 (.seq (.reg [⟨(some 26), .mv (.t 8), none⟩,
 ⟨(some 27), .bin .eql (.t 26) (.c (.i .u8 3)), none⟩,
 ⟨(some 28), .mv (.t 27), none⟩,
 ⟨(some 29), .mv (.t 9), (some (28, true))⟩,
 ⟨(some 30), .un .not (.t 29), (some (28, true))⟩,
 ⟨(some 31), .mv (.t 30), (some (28, true))⟩,
 ⟨(some 32), .mv (.t 0), (some (31, false))⟩,
 ⟨(some 33), .nck (.t 32), (some (31, false))⟩,
 ⟨(some 34), .fa 3 (.t 33), (some (31, false))⟩,
 ⟨(some 35), .ld false 1 (.t 34), (some (31, false))⟩,
 ⟨(some 36), .pick (.t 31) (.c (.b true)) (.t 35), (some (28, true))⟩,
 ⟨(some 37), .mv (.t 36), (some (28, true))⟩,
 ⟨(some 38), .mv (.t 0), (some (37, false))⟩,
 ⟨(some 39), .nck (.t 38), (some (37, false))⟩,
 ⟨(some 40), .fa 4 (.t 39), (some (37, false))⟩,
 ⟨(some 41), .ld false 1 (.t 40), (some (37, false))⟩,
 ⟨(some 42), .pick (.t 37) (.c (.b true)) (.t 41), (some (28, true))⟩,
 ⟨(some 43), .pick (.t 28) (.t 42) (.c (.b false)), none⟩,
 ⟨(some 25), .mv (.t 43), none⟩])
 (.cond (.t 25)
 (.seq (.reg [⟨(some 44), .mv (.t 0), none⟩,
 ⟨(some 45), .mv (.t 7), none⟩,
 ⟨(some 46), .call f_walk_walker_follow [(.t 44), (.t 45)], none⟩,
 ⟨(some 4), .mv (.c (.i .u8 0)), none⟩,
 ⟨(some 5), .mv (.c (.b false)), none⟩,
 ⟨(some 6), .mv (.t 46), none⟩])
 .ret)
 (.seq (.reg [⟨(some 48), .mv (.t 8), none⟩,
 ⟨(some 49), .bin .eql (.t 48) (.c (.i .u8 2)), none⟩,
 ⟨(some 47), .mv (.t 49), none⟩])
 (.cond (.t 47)
 (.seq (.reg [⟨(some 50), .mv (.t 0), none⟩,
 ⟨(some 51), .mv (.t 7), none⟩,
 ⟨(some 52), .nck (.t 50), none⟩,
 ⟨(some 53), .fa 1 (.t 52), none⟩,
 ⟨none, .st 1 (.t 53) (.t 51), none⟩])
 (.seq (.reg [⟨(some 54), .mv (.t 8), none⟩,
 ⟨(some 55), .mv (.t 9), none⟩,
 ⟨(some 4), .mv (.t 54), none⟩,
 ⟨(some 5), .mv (.t 55), none⟩,
 ⟨(some 6), .mv (.c (.i .i64 0)), none⟩])
 .ret))
 (.seq (.reg [⟨(some 57), .mv (.t 8), none⟩,
 ⟨(some 58), .bin .eql (.t 57) (.c (.i .u8 1)), none⟩,
 ⟨(some 59), .mv (.t 58), none⟩,
 ⟨(some 60), .mv (.t 9), (some (59, true))⟩,
 ⟨(some 61), .un .not (.t 60), (some (59, true))⟩,
 ⟨(some 62), .mv (.t 61), (some (59, true))⟩,
 ⟨(some 63), .mv (.t 0), (some (62, false))⟩,
 ⟨(some 64), .nck (.t 63), (some (62, false))⟩,
 ⟨(some 65), .fa 3 (.t 64), (some (62, false))⟩,
 ⟨(some 66), .ld false 1 (.t 65), (some (62, false))⟩,
 ⟨(some 67), .pick (.t 62) (.c (.b true)) (.t 66), (some (59, true))⟩,
 ⟨(some 68), .pick (.t 59) (.t 67) (.c (.b false)), none⟩,
 ⟨(some 56), .mv (.t 68), none⟩])
 (.cond (.t 56)
 (.seq (.reg [⟨(some 4), .mv (.c (.i .u8 0)), none⟩,
 ⟨(some 5), .mv (.c (.b false)), none⟩,
 ⟨(some 6), .mv (.c (.i .i64 55)), none⟩])
 .ret)
 (.seq (.reg [⟨(some 70), .mv (.t 8), none⟩,
 ⟨(some 71), .bin .eql (.t 70) (.c (.i .u8 0)), none⟩,
 ⟨(some 72), .mv (.t 71), none⟩,
 ⟨(some 73), .mv (.t 9), (some (72, true))⟩,
 ⟨(some 74), .un .not (.t 73), (some (72, true))⟩,
 ⟨(some 75), .pick (.t 72) (.t 74) (.c (.b false)), none⟩,
 ⟨(some 69), .mv (.t 75), none⟩])
 (.cond (.t 69)
 (.seq (.reg [⟨(some 4), .mv (.c (.i .u8 0)), none⟩,
 ⟨(some 5), .mv (.c (.b false)), none⟩,
 ⟨(some 6), .mv (.c (.i .i64 5)), none⟩])
 .ret)
 .skip)))))))))
 (.seq (.reg [⟨(some 76), .mv (.t 0), none⟩,
 ⟨(some 77), .mv (.t 7), none⟩,
 ⟨(some 78), .nck (.t 76), none⟩,
 ⟨(some 79), .fa 1 (.t 78), none⟩,
 ⟨none, .st 1 (.t 79) (.t 77), none⟩])
 (.seq (.reg [⟨(some 80), .mv (.t 8), none⟩,
 ⟨(some 4), .mv (.t 80), none⟩,
 ⟨(some 5), .mv (.c (.b true)), none⟩,
 ⟨(some 6), .mv (.c (.i .i64 0)), none⟩])
 .ret))))))) }
def c_internal_stringslite_Index : Fun := { cin := [.id, .id], cout := [.id], ntmps := 143, keep := false, res := [(4, none)], body :=
 (.seq (.reg [⟨(some 4), .mv (.c (.i .i64 0)), none⟩])
 (.seq (.reg [⟨(some 14), .mv (.t 1), none⟩,
 ⟨(some 15), .len 0 (.t 14), none⟩,
 ⟨(some 5), .mv (.t 15), none⟩])
 (.seq (.blk 0 (.seq (.reg [⟨(some 17), .mv (.t 5), none⟩,
 ⟨(some 18), .bin .eql (.t 17) (.c (.i .i64 0)), none⟩,
 ⟨(some 19), .mv (.t 18), none⟩,
 ⟨(some 20), .mv (.t 1), (some (19, false))⟩,
 ⟨(some 21), .mv (.t 0), (some (19, false))⟩,
 ⟨(some 22), .bin .eql (.t 20) (.t 21), (some (19, false))⟩,
 ⟨(some 23), .pick (.t 19) (.c (.b true)) (.t 22), none⟩,
 ⟨(some 16), .mv (.t 23), none⟩])
 (.cond (.t 16)
 (.seq (.reg [⟨(some 4), .mv (.c (.i .i64 0)), none⟩])
 .ret)
 (.seq (.reg [⟨(some 25), .mv (.t 5), none⟩,
 ⟨(some 26), .bin .eql (.t 25) (.c (.i .i64 1)), none⟩,
 ⟨(some 24), .mv (.t 26), none⟩])
 (.cond (.t 24)
 (.seq (.reg [⟨(some 27), .mv (.t 0), none⟩,
 ⟨(some 28), .mv (.t 1), none⟩,
 ⟨(some 29), .ixS (.t 28) (.c (.i .i64 0)), none⟩,
 ⟨(some 30), .call f_internal_stringslite_IndexByte [(.t 27), (.t 29)], none⟩,
 ⟨(some 4), .mv (.t 30), none⟩])
 .ret)
 (.seq (.reg [⟨(some 32), .mv (.t 5), none⟩,
 ⟨(some 33), .mv (.t 0), none⟩,
 ⟨(some 34), .len 0 (.t 33), none⟩,
 ⟨(some 35), .bin .geq (.t 32) (.t 34), none⟩,
 ⟨(some 31), .mv (.t 35), none⟩])
 (.cond (.t 31)
 (.seq (.reg [⟨(some 4), .mv (.c (.i .i64 (-1))), none⟩])
 .ret)
 (.seq (.reg [⟨(some 37), .mv (.t 5), none⟩,
 ⟨(some 38), .bad, none⟩,
 ⟨(some 39), .bin .leq (.t 37) (.t 38), none⟩,
 ⟨(some 40), .mv (.t 39), none⟩,
 ⟨(some 41), .mv (.t 0), (some (40, true))⟩,
 ⟨(some 42), .len 0 (.t 41), (some (40, true))⟩,
 ⟨(some 43), .bin .leq (.t 42) (.c (.i .i64 64)), (some (40, true))⟩,
 ⟨(some 44), .pick (.t 40) (.t 43) (.c (.b false)), none⟩,
 ⟨(some 36), .mv (.t 44), none⟩])
 (.cond (.t 36)
 (.seq (.reg [⟨(some 45), .mv (.t 0), none⟩,
 ⟨(some 46), .mv (.t 1), none⟩,
 ⟨(some 47), .bad, none⟩,
 ⟨(some 4), .mv (.t 47), none⟩])
 .ret)
 .skip)))))))))
 (.seq (.reg [⟨(some 48), .mv (.t 1), none⟩,
 ⟨(some 49), .ixS (.t 48) (.c (.i .i64 0)), none⟩,
 ⟨(some 6), .mv (.t 49), none⟩])
 (.seq (.reg [⟨(some 50), .mv (.t 1), none⟩,
 ⟨(some 51), .ixS (.t 50) (.c (.i .i64 1)), none⟩,
 ⟨(some 7), .mv (.t 51), none⟩])
 (.seq (.reg [⟨(some 8), .mv (.c (.i .i64 0)), none⟩])
 (.seq (.reg [⟨(some 52), .mv (.t 0), none⟩,
 ⟨(some 53), .len 0 (.t 52), none⟩,
 ⟨(some 54), .mv (.t 5), none⟩,
 ⟨(some 55), .bin .sub (.t 53) (.t 54), none⟩,
 ⟨(some 56), .bin .add (.t 55) (.c (.i .i64 1)), none⟩,
 ⟨(some 9), .mv (.t 56), none⟩])
 (.seq (.reg [⟨(some 10), .mv (.c (.i .i64 0)), none⟩])
 (.seq (.blk 1 (.loop (.seq (.seq (.reg [⟨(some 57), .mv (.t 8), none⟩,
 ⟨(some 58), .mv (.t 9), none⟩,
 ⟨(some 59), .bin .lss (.t 57) (.t 58), none⟩])
 (.cond (.t 59)
 .skip
 (.exit 1)))
 (.blk 2 (.seq (.seq (.reg [⟨(some 60), .mv (.t 0), none⟩,
 ⟨(some 61), .mv (.t 8), none⟩,
 ⟨(some 62), .ixS (.t 60) (.t 61), none⟩,
 ⟨(some 63), .mv (.t 6), none⟩,
 ⟨(some 64), .bin .neq (.t 62) (.t 63), none⟩])
 (.cond (.t 64)
 (.seq (.reg [⟨(some 65), .mv (.t 0), none⟩,
 ⟨(some 66), .mv (.t 8), none⟩,
 ⟨(some 67), .bin .add (.t 66) (.c (.i .i64 1)), none⟩,
 ⟨(some 68), .mv (.t 9), none⟩,
 ⟨(some 69), .slS (.t 65) (some (.t 67)) (some (.t 68)), none⟩,
 ⟨(some 70), .mv (.t 6), none⟩,
 ⟨(some 71), .call f_internal_stringslite_IndexByte [(.t 69), (.t 70)], none⟩,
 ⟨(some 11), .mv (.t 71), none⟩])
 (.seq (.seq (.reg [⟨(some 72), .mv (.t 11), none⟩,
 ⟨(some 73), .bin .lss (.t 72) (.c (.i .i64 0)), none⟩])
 (.cond (.t 73)
 (.seq (.reg [⟨(some 4), .mv (.c (.i .i64 (-1))), none⟩])
 .ret)
 .skip))
 (.reg [⟨(some 74), .mv (.t 8), none⟩,
 ⟨(some 75), .mv (.t 11), none⟩,
 ⟨(some 76), .bin .add (.t 75) (.c (.i .i64 1)), none⟩,
 ⟨(some 77), .bin .add (.t 74) (.t 76), none⟩,
 ⟨(some 8), .mv (.t 77), none⟩])))
 .skip))
 (.seq (.seq (.reg [⟨(some 78), .mv (.t 0), none⟩,
 ⟨(some 79), .mv (.t 8), none⟩,
 ⟨(some 80), .bin .add (.t 79) (.c (.i .i64 1)), none⟩,
 ⟨(some 81), .ixS (.t 78) (.t 80), none⟩,
 ⟨(some 82), .mv (.t 7), none⟩,
 ⟨(some 83), .bin .eql (.t 81) (.t 82), none⟩,
 ⟨(some 84), .mv (.t 83), none⟩,
 ⟨(some 85), .mv (.t 0), (some (84, true))⟩,
 ⟨(some 86), .mv (.t 8), (some (84, true))⟩,
 ⟨(some 87), .mv (.t 8), (some (84, true))⟩,
 ⟨(some 88), .mv (.t 5), (some (84, true))⟩,
 ⟨(some 89), .bin .add (.t 87) (.t 88), (some (84, true))⟩,
 ⟨(some 90), .slS (.t 85) (some (.t 86)) (some (.t 89)), (some (84, true))⟩,
 ⟨(some 91), .mv (.t 1), (some (84, true))⟩,
 ⟨(some 92), .bin .eql (.t 90) (.t 91), (some (84, true))⟩,
 ⟨(some 93), .pick (.t 84) (.t 92) (.c (.b false)), none⟩])
 (.cond (.t 93)
 (.seq (.reg [⟨(some 94), .mv (.t 8), none⟩,
 ⟨(some 4), .mv (.t 94), none⟩])
 .ret)
 .skip))
 (.seq (.reg [⟨(some 95), .mv (.t 8), none⟩,
 ⟨(some 96), .bin .add (.t 95) (.c (.i .i64 1)), none⟩,
 ⟨(some 8), .mv (.t 96), none⟩])
 (.seq (.reg [⟨(some 97), .mv (.t 10), none⟩,
 ⟨(some 98), .bin .add (.t 97) (.c (.i .i64 1)), none⟩,
 ⟨(some 10), .mv (.t 98), none⟩])
 (.seq (.reg [⟨(some 99), .mv (.t 5), none⟩,
 ⟨(some 100), .bad, none⟩,
 ⟨(some 101), .bin .leq (.t 99) (.t 100), none⟩,
 ⟨(some 102), .mv (.t 101), none⟩,
 ⟨(some 103), .mv (.t 10), (some (102, true))⟩,
 ⟨(some 104), .mv (.t 8), (some (102, true))⟩,
 ⟨(some 105), .call f_internal_bytealg_Cutover [(.t 104)], (some (102, true))⟩,
 ⟨(some 106), .bin .gtr (.t 103) (.t 105), (some (102, true))⟩,
 ⟨(some 107), .pick (.t 102) (.t 106) (.c (.b false)), none⟩])
 (.cond (.t 107)
 (.seq (.reg [⟨(some 108), .mv (.t 0), none⟩,
 ⟨(some 109), .mv (.t 8), none⟩,
 ⟨(some 110), .slS (.t 108) (some (.t 109)) none, none⟩,
 ⟨(some 111), .mv (.t 1), none⟩,
 ⟨(some 112), .bad, none⟩,
 ⟨(some 12), .mv (.t 112), none⟩])
 (.seq (.seq (.reg [⟨(some 113), .mv (.t 12), none⟩,
 ⟨(some 114), .bin .geq (.t 113) (.c (.i .i64 0)), none⟩])
 (.cond (.t 114)
 (.seq (.reg [⟨(some 115), .mv (.t 12), none⟩,
 ⟨(some 116), .mv (.t 8), none⟩,
 ⟨(some 117), .bin .add (.t 115) (.t 116), none⟩,
 ⟨(some 4), .mv (.t 117), none⟩])
 .ret)
 .skip))
 (.seq (.reg [⟨(some 4), .mv (.c (.i .i64 (-1))), none⟩])
 .ret)))
 (.seq (.reg [⟨(some 118), .mv (.t 5), none⟩,
 ⟨(some 119), .bad, none⟩,
 ⟨(some 120), .bin .gtr (.t 118) (.t 119), none⟩,
 ⟨(some 121), .mv (.t 120), none⟩,
 ⟨(some 122), .mv (.t 10), (some (121, true))⟩,
 ⟨(some 123), .mv (.t 8), (some (121, true))⟩,
 ⟨(some 124), .bin .shr (.t 123) (.c (.i .u64 4)), (some (121, true))⟩,
 ⟨(some 125), .bin .add (.c (.i .i64 4)) (.t 124), (some (121, true))⟩,
 ⟨(some 126), .bin .geq (.t 122) (.t 125), (some (121, true))⟩,
 ⟨(some 127), .pick (.t 121) (.t 126) (.c (.b false)), none⟩,
 ⟨(some 128), .mv (.t 127), none⟩,
 ⟨(some 129), .mv (.t 8), (some (128, true))⟩,
 ⟨(some 130), .mv (.t 9), (some (128, true))⟩,
 ⟨(some 131), .bin .lss (.t 129) (.t 130), (some (128, true))⟩,
 ⟨(some 132), .pick (.t 128) (.t 131) (.c (.b false)), none⟩])
 (.cond (.t 132)
 (.seq (.reg [⟨(some 133), .mv (.t 0), none⟩,
 ⟨(some 134), .mv (.t 8), none⟩,
 ⟨(some 135), .slS (.t 133) (some (.t 134)) none, none⟩,
 ⟨(some 136), .mv (.t 1), none⟩,
 ⟨(some 137), .call f_internal_bytealg_IndexRabinKarp_string [(.t 135), (.t 136)], none⟩,
 ⟨(some 13), .mv (.t 137), none⟩])
 (.seq (.seq (.reg [⟨(some 138), .mv (.t 13), none⟩,
 ⟨(some 139), .bin .lss (.t 138) (.c (.i .i64 0)), none⟩])
 (.cond (.t 139)
 (.seq (.reg [⟨(some 4), .mv (.c (.i .i64 (-1))), none⟩])
 .ret)
 .skip))
 (.seq (.reg [⟨(some 140), .mv (.t 8), none⟩,
 ⟨(some 141), .mv (.t 13), none⟩,
 ⟨(some 142), .bin .add (.t 140) (.t 141), none⟩,
 ⟨(some 4), .mv (.t 142), none⟩])
 .ret)))
 .skip))))))))))))
 (.seq (.reg [⟨(some 4), .mv (.c (.i .i64 (-1))), none⟩])
 .ret)))))))))) }
def c_strings_splitSeq : Fun := { cin := [.id, .id, .id], cout := [.id], ntmps := 8, keep := false, res := [(6, none)], body :=
 (.seq (.reg [⟨(some 3), .box 9 1 (.t 0), none⟩,
 ⟨(some 4), .box 9 1 (.t 1), none⟩,
 ⟨(some 5), .box 3 1 (.t 2), none⟩,
 ⟨(some 6), .mv (.c .nf), none⟩])
 (.seq (.reg [⟨(some 7), .mkf f_strings_splitSeq_1 [(.t 4), (.t 3), (.t 5)], none⟩,
 ⟨(some 6), .mv (.t 7), none⟩])
 .ret)) }
def c_strings_Builder_copyCheck : Fun := { cin := [.id], cout := [], ntmps := 20, keep := false, res := [], body :=
 (.seq (.reg [⟨(some 2), .mv (.t 0), none⟩,
 ⟨(some 3), .nck (.t 2), none⟩,
 ⟨(some 4), .fa 0 (.t 3), none⟩,
 ⟨(some 5), .ld false 1 (.t 4), none⟩,
 ⟨(some 6), .eq .ptr false (.t 5) (.c .np), none⟩])
 (.cond (.t 6)
 (.reg [⟨(some 7), .mv (.t 0), none⟩,
 ⟨(some 8), .mv (.t 0), none⟩,
 ⟨(some 9), .cvU 187 2 (.t 8), none⟩,
 ⟨(some 10), .xtn 1 [(.t 9)], none⟩,
 ⟨(some 11), .cvU 187 2 (.t 10), none⟩,
 ⟨(some 12), .nck (.t 7), none⟩,
 ⟨(some 13), .fa 0 (.t 12), none⟩,
 ⟨none, .st 1 (.t 13) (.t 11), none⟩])
 (.seq (.reg [⟨(some 14), .mv (.t 0), none⟩,
 ⟨(some 15), .nck (.t 14), none⟩,
 ⟨(some 16), .fa 0 (.t 15), none⟩,
 ⟨(some 17), .ld false 1 (.t 16), none⟩,
 ⟨(some 18), .mv (.t 0), none⟩,
 ⟨(some 19), .eq .ptr true (.t 17) (.t 18), none⟩])
 (.cond (.t 19)
 .bad
 .skip)))) }
def c_strings_Builder_grow : Fun := { cin := [.id, .id], cout := [], ntmps := 30, keep := false, res := [], body :=
 (.seq (.regD [⟨(some 5), .mv (.t 0), none⟩,
 ⟨(some 6), .nck (.t 5), none⟩,
 ⟨(some 7), .fa 1 (.t 6), none⟩,
 ⟨(some 8), .ld false 1 (.t 7), none⟩,
 ⟨(some 9), .cap (.t 8), none⟩,
 ⟨(some 10), .bin .mul (.c (.i .i64 2)) (.t 9), none⟩,
 ⟨(some 11), .mv (.t 1), none⟩,
 ⟨(some 12), .bin .add (.t 10) (.t 11), none⟩,
 ⟨(some 13), .mnz 5 (.t 12), none⟩,
 ⟨(some 14), .mv (.t 0), none⟩,
 ⟨(some 15), .nck (.t 14), none⟩,
 ⟨(some 16), .fa 1 (.t 15), none⟩,
 ⟨(some 17), .ld false 1 (.t 16), none⟩,
 ⟨(some 18), .len 1 (.t 17), none⟩,
 ⟨(some 19), .slc true 1 (.t 13) none (some (.t 18)) none, none⟩,
 ⟨(some 4), .mv (.t 19), none⟩] [(12, (8, 12))])
 (.seq (.reg [⟨(some 20), .mv (.t 4), none⟩,
 ⟨(some 21), .mv (.t 0), none⟩,
 ⟨(some 22), .nck (.t 21), none⟩,
 ⟨(some 23), .fa 1 (.t 22), none⟩,
 ⟨(some 24), .ld false 1 (.t 23), none⟩,
 ⟨(some 25), .cp0 1 (.t 20) (.t 24), none⟩])
 (.reg [⟨(some 26), .mv (.t 0), none⟩,
 ⟨(some 27), .mv (.t 4), none⟩,
 ⟨(some 28), .nck (.t 26), none⟩,
 ⟨(some 29), .fa 1 (.t 28), none⟩,
 ⟨none, .st 1 (.t 29) (.t 27), none⟩]))) }
def c_moves_found : Fun := { cin := [(.sl 1 .id), .id, .id], cout := [(.sl 1 .id), .id], ntmps := 16, keep := false, res := [(6, none), (7, none)], body :=
 (.seq (.reg [⟨(some 6), .mv (.c .nsl), none⟩,
 ⟨(some 7), .mv (.c (.i .i64 0)), none⟩])
 (.seq (.seq (.reg [⟨(some 8), .mv (.t 2), none⟩,
 ⟨(some 9), .bin .eql (.t 8) (.c (.i .i64 0)), none⟩,
 ⟨(some 10), .mv (.t 9), none⟩,
 ⟨(some 11), .mv (.t 1), (some (10, true))⟩,
 ⟨(some 12), .bin .eql (.t 11) (.c (.i .u8 0)), (some (10, true))⟩,
 ⟨(some 13), .pick (.t 10) (.t 12) (.c (.b false)), none⟩])
 (.cond (.t 13)
 (.reg [⟨(some 2), .mv (.c (.i .i64 5)), none⟩])
 .skip))
 (.seq (.reg [⟨(some 14), .mv (.t 0), none⟩,
 ⟨(some 15), .mv (.t 2), none⟩,
 ⟨(some 6), .mv (.t 14), none⟩,
 ⟨(some 7), .mv (.t 15), none⟩])
 .ret))) }
def c_prim_Rename : Fun := { cin := [.id, (.sl 1 .id), (.sl 1 .id)], cout := [.id], ntmps := 13, keep := false, res := [(6, none)], body :=
 (.seq (.reg [⟨(some 3), .box 99 1 (.t 0), none⟩,
 ⟨(some 4), .box 22 1 (.t 1), none⟩,
 ⟨(some 5), .box 22 1 (.t 2), none⟩,
 ⟨(some 6), .mv (.c (.i .i64 0)), none⟩])
 (.seq (.reg [⟨(some 7), .ld false 1 (.t 3), none⟩,
 ⟨(some 8), .mkf f_prim_Rename_1 [(.t 3), (.t 4), (.t 5)], none⟩,
 ⟨(some 9), .ld false 1 (.t 4), none⟩,
 ⟨(some 10), .ld false 1 (.t 5), none⟩,
 ⟨(some 11), .bsl 1 [(.t 9), (.t 10)], none⟩,
 ⟨(some 12), .call f_prim_at [(.t 7), (.t 8), (.t 11)], none⟩,
 ⟨(some 6), .mv (.t 12), none⟩])
 .ret)) }
def c_moves_call_deep : Fun := { cin := [.id], cout := [.id], ntmps := 15, keep := false, res := [(2, none)], body :=
 (.seq (.reg [⟨(some 2), .mv (.c (.b false)), none⟩])
 (.seq (.reg [⟨(some 3), .mv (.t 0), none⟩,
 ⟨(some 4), .nck (.t 3), none⟩,
 ⟨(some 5), .fa 2 (.t 4), none⟩,
 ⟨(some 6), .ld true 2 (.t 5), none⟩,
 ⟨(some 7), .call f_opts_Opts_Has [(.t 6), (.c (.i .u8 114))], none⟩,
 ⟨(some 8), .mv (.t 7), none⟩,
 ⟨(some 9), .mv (.t 0), (some (8, false))⟩,
 ⟨(some 10), .nck (.t 9), (some (8, false))⟩,
 ⟨(some 11), .fa 2 (.t 10), (some (8, false))⟩,
 ⟨(some 12), .ld true 2 (.t 11), (some (8, false))⟩,
 ⟨(some 13), .call f_opts_Opts_Has [(.t 12), (.c (.i .u8 82))], (some (8, false))⟩,
 ⟨(some 14), .pick (.t 8) (.c (.b true)) (.t 13), none⟩,
 ⟨(some 2), .mv (.t 14), none⟩])
 .ret)) }
def c_prim_Copy : Fun := { cin := [.id, (.sl 1 .id), (.sl 1 .id), .id], cout := [.id], ntmps := 15, keep := false, res := [(8, none)], body :=
 (.seq (.reg [⟨(some 4), .box 99 1 (.t 0), none⟩,
 ⟨(some 5), .box 22 1 (.t 1), none⟩,
 ⟨(some 6), .box 22 1 (.t 2), none⟩,
 ⟨(some 7), .box 4 1 (.t 3), none⟩,
 ⟨(some 8), .mv (.c (.i .i64 0)), none⟩])
 (.seq (.reg [⟨(some 9), .ld false 1 (.t 4), none⟩,
 ⟨(some 10), .mkf f_prim_Copy_1 [(.t 4), (.t 5), (.t 6), (.t 7)], none⟩,
 ⟨(some 11), .ld false 1 (.t 5), none⟩,
 ⟨(some 12), .ld false 1 (.t 6), none⟩,
 ⟨(some 13), .bsl 1 [(.t 11), (.t 12)], none⟩,
 ⟨(some 14), .call f_prim_at [(.t 9), (.t 10), (.t 13)], none⟩,
 ⟨(some 8), .mv (.t 14), none⟩])
 .ret)) }
def c_prim_MakeLink : Fun := { cin := [.id, (.sl 1 .id), .id], cout := [.id], ntmps := 12, keep := false, res := [(6, none)], body :=
 (.seq (.reg [⟨(some 6), .mv (.c (.i .i64 0)), none⟩])
 (.seq (.reg [⟨(some 7), .mv (.t 0), none⟩,
 ⟨(some 8), .mv (.t 1), none⟩,
 ⟨(some 9), .mv (.t 2), none⟩,
 ⟨(some 10), .build [(.i .u8 0), (.s []), .nsl, .nsl] [(0, 1, (.c (.i .u8 3))), (1, 1, (.t 9))], none⟩,
 ⟨(some 11), .call f_prim_put [(.t 7), (.t 8), (.t 10)], none⟩,
 ⟨(some 6), .mv (.t 11), none⟩])
 .ret)) }
def c_strings_trimRightByte : Fun := { cin := [.id, .id], cout := [.id], ntmps := 23, keep := false, res := [(4, none)], body :=
 (.seq (.reg [⟨(some 4), .mv (.c (.s [])), none⟩])
 (.seq (.blk 0 (.loop (.seq (.seq (.reg [⟨(some 5), .mv (.t 0), none⟩,
 ⟨(some 6), .len 0 (.t 5), none⟩,
 ⟨(some 7), .bin .gtr (.t 6) (.c (.i .i64 0)), none⟩,
 ⟨(some 8), .mv (.t 7), none⟩,
 ⟨(some 9), .mv (.t 0), (some (8, true))⟩,
 ⟨(some 10), .mv (.t 0), (some (8, true))⟩,
 ⟨(some 11), .len 0 (.t 10), (some (8, true))⟩,
 ⟨(some 12), .bin .sub (.t 11) (.c (.i .i64 1)), (some (8, true))⟩,
 ⟨(some 13), .ixS (.t 9) (.t 12), (some (8, true))⟩,
 ⟨(some 14), .mv (.t 1), (some (8, true))⟩,
 ⟨(some 15), .bin .eql (.t 13) (.t 14), (some (8, true))⟩,
 ⟨(some 16), .pick (.t 8) (.t 15) (.c (.b false)), none⟩])
 (.cond (.t 16)
 .skip
 (.exit 0)))
 (.blk 1 (.reg [⟨(some 17), .mv (.t 0), none⟩,
 ⟨(some 18), .mv (.t 0), none⟩,
 ⟨(some 19), .len 0 (.t 18), none⟩,
 ⟨(some 20), .bin .sub (.t 19) (.c (.i .i64 1)), none⟩,
 ⟨(some 21), .slS (.t 17) none (some (.t 20)), none⟩,
 ⟨(some 0), .mv (.t 21), none⟩])))))
 (.seq (.reg [⟨(some 22), .mv (.t 0), none⟩,
 ⟨(some 4), .mv (.t 22), none⟩])
 .ret))) }
def c_strings_makeASCIISet : Fun := { cin := [.id], cout := [(.agg [.id, .id, .id, .id, .id, .id, .id, .id, .id, .id, .id, .id, .id, .id, .id, .id, .id, .id, .id, .id, .id, .id, .id, .id, .id, .id, .id, .id, .id, .id, .id, .id, .id, .id, .id, .id, .id, .id, .id, .id, .id, .id, .id, .id, .id, .id, .id, .id, .id, .id, .id, .id, .id, .id, .id, .id, .id, .id, .id, .id, .id, .id, .id, .id, .id, .id, .id, .id, .id, .id, .id, .id, .id, .id, .id, .id, .id, .id, .id, .id, .id, .id, .id, .id, .id, .id, .id, .id, .id, .id, .id, .id, .id, .id, .id, .id, .id, .id, .id, .id, .id, .id, .id, .id, .id, .id, .id, .id, .id, .id, .id, .id, .id, .id, .id, .id, .id, .id, .id, .id, .id, .id, .id, .id, .id, .id, .id, .id, .id, .id, .id, .id, .id, .id, .id, .id, .id, .id, .id, .id, .id, .id, .id, .id, .id, .id, .id, .id, .id, .id, .id, .id, .id, .id, .id, .id, .id, .id, .id, .id, .id, .id, .id, .id, .id, .id, .id, .id, .id, .id, .id, .id, .id, .id, .id, .id, .id, .id, .id, .id, .id, .id, .id, .id, .id, .id, .id, .id, .id, .id, .id, .id, .id, .id, .id, .id, .id, .id, .id, .id, .id, .id, .id, .id, .id, .id, .id, .id, .id, .id, .id, .id, .id, .id, .id, .id, .id, .id, .id, .id, .id, .id, .id, .id, .id, .id, .id, .id, .id, .id, .id, .id, .id, .id, .id, .id, .id, .id, .id, .id, .id, .id, .id, .id, .id, .id, .id, .id, .id, .id, .id, .id, .id, .id, .id, .id]), .id], ntmps := 21, keep := false, res := [(2, some (true, 256)), (3, none)], body :=
 (.seq (.reg [⟨(some 2), .alloc 242 [(.b false), (.b false), (.b false), (.b false), (.b false), (.b false), (.b false), (.b false), (.b false), (.b false), (.b false), (.b false), (.b false), (.b false), (.b false), (.b false), (.b false), (.b false), (.b false), (.b false), (.b false), (.b false), (.b false), (.b false), (.b false), (.b false), (.b false), (.b false), (.b false), (.b false), (.b false), (.b false), (.b false), (.b false), (.b false), (.b false), (.b false), (.b false), (.b false), (.b false), (.b false), (.b false), (.b false), (.b false), (.b false), (.b false), (.b false), (.b false), (.b false), (.b false), (.b false), (.b false), (.b false), (.b false), (.b false), (.b false), (.b false), (.b false), (.b false), (.b false), (.b false), (.b false), (.b false), (.b false), (.b false), (.b false), (.b false), (.b false), (.b false), (.b false), (.b false), (.b false), (.b false), (.b false), (.b false), (.b false), (.b false), (.b false), (.b false), (.b false), (.b false), (.b false), (.b false), (.b false), (.b false), (.b false), (.b false), (.b false), (.b false), (.b false), (.b false), (.b false), (.b false), (.b false), (.b false), (.b false), (.b false), (.b false), (.b false), (.b false), (.b false), (.b false), (.b false), (.b false), (.b false), (.b false), (.b false), (.b false), (.b false), (.b false), (.b false), (.b false), (.b false), (.b false), (.b false), (.b false), (.b false), (.b false), (.b false), (.b false), (.b false), (.b false), (.b false), (.b false), (.b false), (.b false), (.b false), (.b false), (.b false), (.b false), (.b false), (.b false), (.b false), (.b false), (.b false), (.b false), (.b false), (.b false), (.b false), (.b false), (.b false), (.b false), (.b false), (.b false), (.b false), (.b false), (.b false), (.b false), (.b false), (.b false), (.b false), (.b false), (.b false), (.b false), (.b false), (.b false), (.b false), (.b false), (.b false), (.b false), (.b false), (.b false), (.b false), (.b false), (.b false), (.b false), (.b false), (.b false), (.b false), (.b false), (.b false), (.b false), (.b false), (.b false), (.b false), (.b false), (.b false), (.b false), (.b false), (.b false), (.b false), (.b false), (.b false), (.b false), (.b false), (.b false), (.b false), (.b false), (.b false), (.b false), (.b false), (.b false), (.b false), (.b false), (.b false), (.b false), (.b false), (.b false), (.b false), (.b false), (.b false), (.b false), (.b false), (.b false), (.b false), (.b false), (.b false), (.b false), (.b false), (.b false), (.b false), (.b false), (.b false), (.b false), (.b false), (.b false), (.b false), (.b false), (.b false), (.b false), (.b false), (.b false), (.b false), (.b false), (.b false), (.b false), (.b false), (.b false), (.b false), (.b false), (.b false), (.b false), (.b false), (.b false), (.b false), (.b false), (.b false), (.b false), (.b false), (.b false), (.b false), (.b false), (.b false), (.b false), (.b false), (.b false), (.b false), (.b false), (.b false), (.b false), (.b false), (.b false), (.b false), (.b false), (.b false), (.b false)], none⟩,
 ⟨(some 3), .mv (.c (.b false)), none⟩])
 (.seq (.seq (.reg [⟨(some 4), .mv (.c (.i .i64 0)), none⟩])
 (.blk 0 (.loop (.seq (.seq (.reg [⟨(some 6), .mv (.t 4), none⟩,
 ⟨(some 7), .mv (.t 0), none⟩,
 ⟨(some 8), .len 0 (.t 7), none⟩,
 ⟨(some 9), .bin .lss (.t 6) (.t 8), none⟩])
 (.cond (.t 9)
 .skip
 (.exit 0)))
 (.seq (.blk 1 (.seq (.reg [⟨(some 12), .mv (.t 0), none⟩,
 ⟨(some 13), .mv (.t 4), none⟩,
 ⟨(some 14), .ixS (.t 12) (.t 13), none⟩,
 ⟨(some 5), .mv (.t 14), none⟩])
 (.seq (.seq (.reg [⟨(some 15), .mv (.t 5), none⟩,
 ⟨(some 16), .bin .geq (.t 15) (.c (.i .u8 128)), none⟩])
 (.cond (.t 16)
 (.seq (.reg [⟨(some 17), .ld true 256 (.t 2), none⟩,
 ⟨none, .st 256 (.t 2) (.t 17), none⟩,
 ⟨(some 3), .mv (.c (.b false)), none⟩])
 .ret)
 .skip))
 (.reg [⟨(some 18), .mv (.t 5), none⟩,
 ⟨(some 19), .iaA 256 1 (.t 2) (.t 18), none⟩,
 ⟨none, .st 1 (.t 19) (.c (.b true)), none⟩]))))
 (.reg [⟨(some 10), .mv (.t 4), none⟩,
 ⟨(some 11), .bin .add (.t 10) (.c (.i .i64 1)), none⟩,
 ⟨(some 4), .mv (.t 11), none⟩]))))))
 (.seq (.reg [⟨(some 20), .ld true 256 (.t 2), none⟩,
 ⟨none, .st 256 (.t 2) (.t 20), none⟩,
 ⟨(some 3), .mv (.c (.b true)), none⟩])
 .ret))) }
def c_strings_trimRightASCII : Fun := { cin := [.id, .id], cout := [.id], ntmps := 22, keep := false, res := [(4, none)], body :=
 (.seq (.reg [⟨(some 4), .mv (.c (.s [])), none⟩])
 (.seq (.blk 0 (.loop (.seq (.seq (.reg [⟨(some 5), .mv (.t 0), none⟩,
 ⟨(some 6), .len 0 (.t 5), none⟩,
 ⟨(some 7), .bin .gtr (.t 6) (.c (.i .i64 0)), none⟩])
 (.cond (.t 7)
 .skip
 (.exit 0)))
 (.blk 1 (.seq (.seq (.reg [⟨(some 8), .mv (.t 1), none⟩,
 ⟨(some 9), .mv (.t 0), none⟩,
 ⟨(some 10), .mv (.t 0), none⟩,
 ⟨(some 11), .len 0 (.t 10), none⟩,
 ⟨(some 12), .bin .sub (.t 11) (.c (.i .i64 1)), none⟩,
 ⟨(some 13), .ixS (.t 9) (.t 12), none⟩,
 ⟨(some 14), .call f_strings_asciiSet_contains [(.t 8), (.t 13)], none⟩,
 ⟨(some 15), .un .not (.t 14), none⟩])
 (.cond (.t 15)
 (.exit 0)
 .skip))
 (.reg [⟨(some 16), .mv (.t 0), none⟩,
 ⟨(some 17), .mv (.t 0), none⟩,
 ⟨(some 18), .len 0 (.t 17), none⟩,
 ⟨(some 19), .bin .sub (.t 18) (.c (.i .i64 1)), none⟩,
 ⟨(some 20), .slS (.t 16) none (some (.t 19)), none⟩,
 ⟨(some 0), .mv (.t 20), none⟩]))))))
 (.seq (.reg [⟨(some 21), .mv (.t 0), none⟩,
 ⟨(some 4), .mv (.t 21), none⟩])
 .ret))) }
def c_strings_trimRightUnicode : Fun := { cin := [.id, .id], cout := [.id], ntmps := 34, keep := false, res := [(4, none)], body :=
 (.seq (.reg [⟨(some 4), .mv (.c (.s [])), none⟩])
 (.seq (.blk 0 (.loop (.seq (.seq (.reg [⟨(some 7), .mv (.t 0), none⟩,
 ⟨(some 8), .len 0 (.t 7), none⟩,
 ⟨(some 9), .bin .gtr (.t 8) (.c (.i .i64 0)), none⟩])
 (.cond (.t 9)
 .skip
 (.exit 0)))
 (.blk 1 (.seq (.reg [⟨(some 10), .mv (.t 0), none⟩,
 ⟨(some 11), .mv (.t 0), none⟩,
 ⟨(some 12), .len 0 (.t 11), none⟩,
 ⟨(some 13), .bin .sub (.t 12) (.c (.i .i64 1)), none⟩,
 ⟨(some 14), .ixS (.t 10) (.t 13), none⟩,
 ⟨(some 15), .cvI .i32 (.t 14), none⟩,
 ⟨(some 5), .mv (.t 15), none⟩,
 ⟨(some 6), .mv (.c (.i .i64 1)), none⟩])
 (.seq (.seq (.reg [⟨(some 16), .mv (.t 5), none⟩,
 ⟨(some 17), .bin .geq (.t 16) (.c (.i .i32 128)), none⟩])
 (.cond (.t 17)
 (.reg [⟨(some 19), .mv (.t 0), none⟩,
 ⟨(some 20), .call f_unicode_utf8_DecodeLastRuneInString [(.t 19)], none⟩,
 ⟨(some 18), .mv (.t 20), none⟩,
 ⟨(some 21), .ext (.t 18) 0, none⟩,
 ⟨(some 22), .ext (.t 18) 1, none⟩,
 ⟨(some 5), .mv (.t 21), none⟩,
 ⟨(some 6), .mv (.t 22), none⟩])
 .skip))
 (.seq (.seq (.reg [⟨(some 23), .mv (.t 1), none⟩,
 ⟨(some 24), .mv (.t 5), none⟩,
 ⟨(some 25), .call f_strings_ContainsRune [(.t 23), (.t 24)], none⟩,
 ⟨(some 26), .un .not (.t 25), none⟩])
 (.cond (.t 26)
 (.exit 0)
 .skip))
 (.reg [⟨(some 27), .mv (.t 0), none⟩,
 ⟨(some 28), .mv (.t 0), none⟩,
 ⟨(some 29), .len 0 (.t 28), none⟩,
 ⟨(some 30), .mv (.t 6), none⟩,
 ⟨(some 31), .bin .sub (.t 29) (.t 30), none⟩,
 ⟨(some 32), .slS (.t 27) none (some (.t 31)), none⟩,
 ⟨(some 0), .mv (.t 32), none⟩]))))))))
 (.seq (.reg [⟨(some 33), .mv (.t 0), none⟩,
 ⟨(some 4), .mv (.t 33), none⟩])
 .ret))) }
def c_internal_bytealg_LastIndexByteString : Fun := { cin := [.id, .id], cout := [.id], ntmps := 19, keep := false, res := [(4, none)], body :=
 (.seq (.reg [⟨(some 4), .mv (.c (.i .i64 0)), none⟩])
 (.seq (.seq (.reg [⟨(some 6), .mv (.t 0), none⟩,
 ⟨(some 7), .len 0 (.t 6), none⟩,
 ⟨(some 8), .bin .sub (.t 7) (.c (.i .i64 1)), none⟩,
 ⟨(some 5), .mv (.t 8), none⟩])
 (.blk 0 (.loop (.seq (.seq (.reg [⟨(some 9), .mv (.t 5), none⟩,
 ⟨(some 10), .bin .geq (.t 9) (.c (.i .i64 0)), none⟩])
 (.cond (.t 10)
 .skip
 (.exit 0)))
 (.seq (.blk 1 (.seq (.reg [⟨(some 13), .mv (.t 0), none⟩,
 ⟨(some 14), .mv (.t 5), none⟩,
 ⟨(some 15), .ixS (.t 13) (.t 14), none⟩,
 ⟨(some 16), .mv (.t 1), none⟩,
 ⟨(some 17), .bin .eql (.t 15) (.t 16), none⟩])
 (.cond (.t 17)
 (.seq (.reg [⟨(some 18), .mv (.t 5), none⟩,
 ⟨(some 4), .mv (.t 18), none⟩])
 .ret)
 .skip)))
 (.reg [⟨(some 11), .mv (.t 5), none⟩,
 ⟨(some 12), .bin .sub (.t 11) (.c (.i .i64 1)), none⟩,
 ⟨(some 5), .mv (.t 12), none⟩]))))))
 (.seq (.reg [⟨(some 4), .mv (.c (.i .i64 (-1))), none⟩])
 .ret))) }
def c_cmp_Less_string : Fun := { cin := [.id, .id], cout := [.id], ntmps := 17, keep := false, res := [(4, none)], body :=
 (.seq (.reg [⟨(some 4), .mv (.c (.b false)), none⟩])
 (.seq (.reg [⟨(some 5), .mv (.t 0), none⟩,
 ⟨(some 6), .call f_cmp_isNaN_string [(.t 5)], none⟩,
 ⟨(some 7), .mv (.t 6), none⟩,
 ⟨(some 8), .mv (.t 1), (some (7, true))⟩,
 ⟨(some 9), .call f_cmp_isNaN_string [(.t 8)], (some (7, true))⟩,
 ⟨(some 10), .un .not (.t 9), (some (7, true))⟩,
 ⟨(some 11), .pick (.t 7) (.t 10) (.c (.b false)), none⟩,
 ⟨(some 12), .mv (.t 11), none⟩,
 ⟨(some 13), .mv (.t 0), (some (12, false))⟩,
 ⟨(some 14), .mv (.t 1), (some (12, false))⟩,
 ⟨(some 15), .bin .lss (.t 13) (.t 14), (some (12, false))⟩,
 ⟨(some 16), .pick (.t 12) (.c (.b true)) (.t 15), none⟩,
 ⟨(some 4), .mv (.t 16), none⟩])
 .ret)) }
def c_slices_isNaN_string : Fun := { cin := [.id], cout := [.id], ntmps := 6, keep := false, res := [(2, none)], body :=
 (.seq (.reg [⟨(some 2), .mv (.c (.b false)), none⟩])
 (.seq (.reg [⟨(some 3), .mv (.t 0), none⟩,
 ⟨(some 4), .mv (.t 0), none⟩,
 ⟨(some 5), .bin .neq (.t 3) (.t 4), none⟩,
 ⟨(some 2), .mv (.t 5), none⟩])
 .ret)) }
end Go.Proofs.YtcdbpkfbnhjgdaaGreatDoor
