/-
 The functions, as the abstract machine's: numbers and texts. By program.
-/
import Derived.Test.YtcdbpkfbnhjgdaaGreatDoorAmTab
set_option linter.all false
set_option linter.unusedVariables false
set_option linter.unusedSimpArgs false
set_option linter.unusedSectionVars false
set_option maxRecDepth 100000
namespace Go.Proofs.YtcdbpkfbnhjgdaaGreatDoor
open Go.Proofs.YtcdbpkfbnhjgdaaGreatDoor.Am
def f_touchstonelaw12_DirsNames : Nat := 4
def f_touchstonelaw12_awake : Nat := 15
def f_ftree_New : Nat := 16
def f_dirs_Run : Nat := 17
def f_ftree_Well : Nat := 20
def f_touchstonelaw12_example : Nat := 22
def f_dirs_Reason : Nat := 23
def f_ftree_Tree_Kind : Nat := 24
def f_walk_Spot : Nat := 25
def f_walk_Find : Nat := 26
def f_path_Check : Nat := 30
def f_ftree_Nodes : Nat := 42
def f_ftree_May : Nat := 67
def f_ftree_own : Nat := 68
def f_dirs_utilities : Nat := 69
def f_opts_Parse : Nat := 70
def f_strings_IndexByte : Nat := 71
def f_path_Name : Nat := 72
def f_ftree_Tree_at : Nat := 73
def f_walk_walk : Nat := 74
def f_strings_Contains : Nat := 75
def f_path_steps : Nat := 76
def f_opts_Opts_Has : Nat := 79
def f_ftree_find : Nat := 84
def f_pat_May : Nat := 108
def f_slices_Clone_string_string : Nat := 110
def f_ftree_depth : Nat := 115
def f_dirs_utilities_1 : Nat := 116
def f_dirs_call_mkdir : Nat := 117
def f_dirs_call_rmdir : Nat := 118
def f_dirs_call_touch : Nat := 119
def f_dirs_utilities_2 : Nat := 120
def f_dirs_call_rm : Nat := 121
def f_opts_letter : Nat := 122
def f_internal_stringslite_IndexByte : Nat := 123
def f_strings_ContainsAny : Nat := 124
def f_path_Steps : Nat := 125
def f_path_Dir : Nat := 126
def f_walk_walker_run : Nat := 127
def f_strings_Index : Nat := 128
def f_path_steps_1 : Nat := 129
def f_strings_SplitSeq : Nat := 130
def f_strings_Builder_WriteString : Nat := 132
def f_strings_Builder_String : Nat := 133
def f_strings_LastIndexByte : Nat := 145
def f_slices_BinarySearch_string_string : Nat := 146
def f_strings_HasPrefix : Nat := 152
def f_pat_dir : Nat := 167
def f_pat_one : Nat := 168
def f_slices_ContainsFunc_int_int : Nat := 169
def f_pat_May_1 : Nat := 170
def f_dirs_call_spot : Nat := 181
def f_prim_MakeDir : Nat := 182
def f_prim_RemoveDir : Nat := 183
def f_prim_Touch : Nat := 184
def f_prim_Unlink : Nat := 185
def f_prim_RemoveAll : Nat := 186
def f_internal_bytealg_IndexByteString : Nat := 187
def f_strings_IndexAny : Nat := 188
def f_slices_Collect_string : Nat := 189
def f_walk_walker_name : Nat := 190
def f_internal_stringslite_Index : Nat := 191
def f_strings_splitSeq : Nat := 192
def f_strings_Builder_copyCheck : Nat := 193
def f_strings_makeASCIISet : Nat := 201
def f_internal_bytealg_LastIndexByteString : Nat := 204
def f_cmp_Less_string : Nat := 205
def f_slices_isNaN_string : Nat := 206
def f_internal_stringslite_HasPrefix : Nat := 209
def f_math_bits_Len : Nat := 214
def f_slices_IndexFunc_int_int : Nat := 217
def f_sym_ref : Nat := 219
def f_prim_put : Nat := 231
def f_prim_remove : Nat := 232
def f_prim_RemoveDir_1 : Nat := 233
def f_prim_at : Nat := 234
def f_prim_Touch_1 : Nat := 235
def f_prim_Unlink_1 : Nat := 236
def f_prim_RemoveAll_1 : Nat := 237
def f_strings_IndexRune : Nat := 238
def f_strings_shouldUseASCIISet : Nat := 239
def f_strings_asciiSet_contains : Nat := 240
def f_slices_AppendSeq_string_string : Nat := 241
def f_walk_walker_below : Nat := 242
def f_walk_walker_follow : Nat := 243
def f_internal_bytealg_IndexString : Nat := 244
def f_internal_bytealg_Cutover : Nat := 245
def f_internal_bytealg_IndexRabinKarp_string : Nat := 246
def f_strings_splitSeq_1 : Nat := 247
def f_unicode_utf8_DecodeRuneInString : Nat := 248
def f_internal_abi_NoEscape : Nat := 249
def f_slices_Equal_string_string : Nat := 252
def f_cmp_isNaN_string : Nat := 257
def f_math_bits_Len32 : Nat := 269
def f_math_bits_Len64 : Nat := 270
def f_slices_Clone_api_Fact_api_Fact : Nat := 276
def f_slices_Clone_int_int : Nat := 277
def f_store_change : Nat := 278
def f_store_dir : Nat := 280
def f_prim_put_1 : Nat := 288
def f_prim_remove_1 : Nat := 289
def f_prim_taken : Nat := 290
def f_unicode_utf8_ValidRune : Nat := 291
def f_internal_bytealg_hashStr_string : Nat := 292
def f_unicode_utf8_decodeRuneInStringSlow : Nat := 293
def f_slices_nextPowerOfTwo : Nat := 297
def f_slices_xorshift_Next : Nat := 298
def f_store_own : Nat := 305
def f_slices_Sorted_int : Nat := 306
def f_slices_Values_int_int : Nat := 307
def f_sym_Same : Nat := 314
def f_sym_absent : Nat := 315
def f_slices_Collect_int : Nat := 324
def f_slices_Sort_int_int : Nat := 325
def f_slices_Values_int_int_1 : Nat := 326
def f_slices_EqualFunc_api_Term_api_Term_api_Term_api_Term : Nat := 331
def f_slices_AppendSeq_int_int : Nat := 332
def f_slices_pdqsortOrdered_int : Nat := 333
def f_slices_insertionSortOrdered_int : Nat := 336
def f_slices_heapSortOrdered_int : Nat := 337
def f_slices_breakPatternsOrdered_int : Nat := 338
def f_slices_choosePivotOrdered_int : Nat := 339
def f_slices_reverseRangeOrdered_int : Nat := 340
def f_slices_partialInsertionSortOrdered_int : Nat := 341
def f_cmp_Less_int : Nat := 342
def f_slices_partitionEqualOrdered_int : Nat := 343
def f_slices_partitionOrdered_int : Nat := 344
def f_slices_siftDownOrdered_int : Nat := 345
def f_slices_medianAdjacentOrdered_int : Nat := 346
def f_slices_medianOrdered_int : Nat := 347
def f_cmp_isNaN_int : Nat := 348
def f_slices_order2Ordered_int : Nat := 349
def f_internal_abi_Type_Kind : Nat := 363
def f_ftree_Tree_Del : Nat := 368
def f_ftree_Tree_Empty : Nat := 369
def f_ftree_Tree_Put : Nat := 371
def f_ftree_Tree_Text : Nat := 372
def f_ftree_Tree_set : Nat := 374
def f_ftree_change : Nat := 375
def f_ftree_Tree_Del_1 : Nat := 376
def f_slices_Delete_string_string : Nat := 377
def f_slices_Delete_api_Node_api_Node : Nat := 378
def f_slices_Clone_api_Node_api_Node : Nat := 379
def f_ftree_Tree_open : Nat := 380
def f_ftree_Tree_set_1 : Nat := 382
def f_slices_Insert_string_string : Nat := 383
def f_slices_Insert_api_Node_api_Node : Nat := 384
def f_slices_overlaps_string : Nat := 385
def f_slices_rotateRight_string : Nat := 386
def f_slices_overlaps_api_Node : Nat := 387
def f_slices_rotateRight_api_Node : Nat := 388
def f_slices_rotateLeft_string : Nat := 389
def f_slices_rotateLeft_api_Node : Nat := 390
def f_slices_Reverse_string_string : Nat := 391
def f_slices_Reverse_api_Node_api_Node : Nat := 392
def f_sym_Tree_Del : Nat := 397
def f_sym_Tree_Empty : Nat := 398
def f_sym_Tree_Kind : Nat := 399
def f_sym_Tree_Put : Nat := 401
def f_sym_Tree_Text : Nat := 402
def f_sym_Tree_set : Nat := 404
def f_sym_Tree_at : Nat := 405
def f_sym_Tree_kind : Nat := 406
def f_sym_base : Nat := 407
def f_sym_Tree_bare : Nat := 408
def f_sym_Tree_open : Nat := 409
def f_sym_made : Nat := 410
def f_sym_with : Nat := 411
def f_sym_Tree_kid : Nat := 412
def f_sym_Tree_bare_1 : Nat := 413
def f_slices_Contains_string_string : Nat := 414
def f_sym_Tree_beside : Nat := 415
def f_slices_Clone_api_Term_api_Term : Nat := 416
def f_slices_Delete_api_Term_api_Term : Nat := 417
def f_slices_Insert_api_Term_api_Term : Nat := 418
def f_store_Ask : Nat := 419
def f_slices_Index_string_string : Nat := 420
def f_slices_Contains_int_int : Nat := 421
def f_slices_overlaps_api_Term : Nat := 422
def f_slices_rotateRight_api_Term : Nat := 423
def f_store_Ask_1 : Nat := 424
def f_store_Ask_2 : Nat := 425
def f_slices_Insert_int_int : Nat := 426
def f_slices_Index_int_int : Nat := 427
def f_slices_rotateLeft_api_Term : Nat := 428
def f_slices_overlaps_int : Nat := 429
def f_slices_rotateRight_int : Nat := 430
def f_slices_Reverse_api_Term_api_Term : Nat := 431
def f_slices_rotateLeft_int : Nat := 432
def f_slices_Reverse_int_int : Nat := 433
def c_touchstonelaw12_DirsNames : Fun := { cin := [], cout := [.id], ntmps := 185, keep := false, res := [(0, none)], body :=
 (.seq (.reg [⟨(some 0), .mv (.c (.b false)), none⟩])
 (.seq (.reg [⟨(some 26), .call f_touchstonelaw12_example [], none⟩,
 ⟨(some 1), .mv (.t 26), none⟩])
 (.seq (.seq (.reg [⟨(some 27), .mv (.t 1), none⟩,
 ⟨(some 28), .eq .ptr false (.t 27) (.c .np), none⟩])
 (.cond (.t 28)
 (.seq (.reg [⟨(some 0), .mv (.c (.b false)), none⟩])
 .ret)
 .skip))
 (.seq (.seq (.reg [⟨(some 29), .bsl 1 [(.c (.s [109, 107, 100, 105, 114])), (.c (.s [97])), (.c (.s [100, 47, 120]))], none⟩,
 ⟨(some 30), .build [.nsl, (.i .i64 0), (.s [])] [(0, 1, (.t 29)), (1, 1, (.c (.i .i64 1))), (2, 1, (.c (.s [109, 107, 100, 105, 114, 58, 32, 97, 58, 32, 116, 104, 101, 114, 101, 32, 97, 108, 114, 101, 97, 100, 121, 10])))], none⟩,
 ⟨(some 31), .bsl 1 [(.c (.s [109, 107, 100, 105, 114])), (.c (.s [45, 112])), (.c (.s [100, 47, 112, 47, 113]))], none⟩,
 ⟨(some 32), .build [.nsl, (.i .i64 0), (.s [])] [(0, 1, (.t 31)), (1, 1, (.c (.i .i64 0))), (2, 1, (.c (.s [])))], none⟩,
 ⟨(some 33), .bsl 1 [(.c (.s [109, 107, 100, 105, 114])), (.c (.s [45, 112])), (.c (.s [97, 47, 98]))], none⟩,
 ⟨(some 34), .build [.nsl, (.i .i64 0), (.s [])] [(0, 1, (.t 33)), (1, 1, (.c (.i .i64 1))), (2, 1, (.c (.s [109, 107, 100, 105, 114, 58, 32, 97, 47, 98, 58, 32, 119, 114, 111, 110, 103, 32, 107, 105, 110, 100, 10])))], none⟩,
 ⟨(some 35), .bsl 1 [(.c (.s [109, 107, 100, 105, 114])), (.c (.s [113, 47, 114]))], none⟩,
 ⟨(some 36), .build [.nsl, (.i .i64 0), (.s [])] [(0, 1, (.t 35)), (1, 1, (.c (.i .i64 1))), (2, 1, (.c (.s [109, 107, 100, 105, 114, 58, 32, 113, 47, 114, 58, 32, 110, 111, 116, 32, 116, 104, 101, 114, 101, 10])))], none⟩,
 ⟨(some 37), .bsl 1 [(.c (.s [114, 109, 100, 105, 114])), (.c (.s [100])), (.c (.s [97]))], none⟩,
 ⟨(some 38), .build [.nsl, (.i .i64 0), (.s [])] [(0, 1, (.t 37)), (1, 1, (.c (.i .i64 1))), (2, 1, (.c (.s [114, 109, 100, 105, 114, 58, 32, 100, 58, 32, 110, 111, 116, 32, 101, 109, 112, 116, 121, 10, 114, 109, 100, 105, 114, 58, 32, 97, 58, 32, 119, 114, 111, 110, 103, 32, 107, 105, 110, 100, 10])))], none⟩,
 ⟨(some 39), .bsl 1 [(.c (.s [114, 109])), (.c (.s [100]))], none⟩,
 ⟨(some 40), .build [.nsl, (.i .i64 0), (.s [])] [(0, 1, (.t 39)), (1, 1, (.c (.i .i64 1))), (2, 1, (.c (.s [114, 109, 58, 32, 100, 58, 32, 119, 114, 111, 110, 103, 32, 107, 105, 110, 100, 10])))], none⟩,
 ⟨(some 41), .bsl 1 [(.c (.s [114, 109]))], none⟩,
 ⟨(some 42), .build [.nsl, (.i .i64 0), (.s [])] [(0, 1, (.t 41)), (1, 1, (.c (.i .i64 2))), (2, 1, (.c (.s [114, 109, 58, 32, 117, 115, 97, 103, 101, 10])))], none⟩,
 ⟨(some 43), .bsl 1 [(.c (.s [114, 109])), (.c (.s [45, 102]))], none⟩,
 ⟨(some 44), .build [.nsl, (.i .i64 0), (.s [])] [(0, 1, (.t 43)), (1, 1, (.c (.i .i64 0))), (2, 1, (.c (.s [])))], none⟩,
 ⟨(some 45), .bsl 1 [(.c (.s [114, 109])), (.c (.s [45, 120])), (.c (.s [97]))], none⟩,
 ⟨(some 46), .build [.nsl, (.i .i64 0), (.s [])] [(0, 1, (.t 45)), (1, 1, (.c (.i .i64 2))), (2, 1, (.c (.s [114, 109, 58, 32, 117, 115, 97, 103, 101, 10])))], none⟩,
 ⟨(some 47), .bsl 1 [(.c (.s [116, 111, 117, 99, 104])), (.c (.s [110, 47]))], none⟩,
 ⟨(some 48), .build [.nsl, (.i .i64 0), (.s [])] [(0, 1, (.t 47)), (1, 1, (.c (.i .i64 1))), (2, 1, (.c (.s [116, 111, 117, 99, 104, 58, 32, 110, 47, 58, 32, 110, 111, 116, 32, 116, 104, 101, 114, 101, 10])))], none⟩,
 ⟨(some 49), .bsl 1 [(.c (.s [116, 111, 117, 99, 104])), (.c (.s []))], none⟩,
 ⟨(some 50), .build [.nsl, (.i .i64 0), (.s [])] [(0, 1, (.t 49)), (1, 1, (.c (.i .i64 1))), (2, 1, (.c (.s [116, 111, 117, 99, 104, 58, 32, 58, 32, 98, 97, 100, 32, 110, 97, 109, 101, 10])))], none⟩,
 ⟨(some 51), .bsl 1 [(.c (.s [116, 111, 117, 99, 104])), (.c (.s [45, 112])), (.c (.s [97]))], none⟩,
 ⟨(some 52), .build [.nsl, (.i .i64 0), (.s [])] [(0, 1, (.t 51)), (1, 1, (.c (.i .i64 2))), (2, 1, (.c (.s [116, 111, 117, 99, 104, 58, 32, 117, 115, 97, 103, 101, 10])))], none⟩,
 ⟨(some 53), .bsl 1 [(.c (.s [114, 109])), (.c (.s [45, 114, 102])), (.c (.s [100])), (.c (.s [122]))], none⟩,
 ⟨(some 54), .build [.nsl, (.i .i64 0), (.s [])] [(0, 1, (.t 53)), (1, 1, (.c (.i .i64 0))), (2, 1, (.c (.s [])))], none⟩,
 ⟨(some 55), .bsl 1 [(.c (.s [114, 109])), (.c (.s [45, 114])), (.c (.s [47]))], none⟩,
 ⟨(some 56), .build [.nsl, (.i .i64 0), (.s [])] [(0, 1, (.t 55)), (1, 1, (.c (.i .i64 1))), (2, 1, (.c (.s [114, 109, 58, 32, 47, 58, 32, 110, 111, 116, 32, 101, 109, 112, 116, 121, 10])))], none⟩,
 ⟨(some 57), .bsl 1 [(.c (.s [109, 107, 100, 105, 114])), (.c (.s [109, 47]))], none⟩,
 ⟨(some 58), .build [.nsl, (.i .i64 0), (.s [])] [(0, 1, (.t 57)), (1, 1, (.c (.i .i64 0))), (2, 1, (.c (.s [])))], none⟩,
 ⟨(some 59), .bsl 3 [(.t 30), (.t 32), (.t 34), (.t 36), (.t 38), (.t 40), (.t 42), (.t 44), (.t 46), (.t 48), (.t 50), (.t 52), (.t 54), (.t 56), (.t 58)], none⟩,
 ⟨(some 60), .len 1 (.t 59), none⟩,
 ⟨(some 61), .mv (.c (.i .i64 0)), none⟩])
 (.blk 0 (.loop (.seq (.reg [⟨(some 62), .bin .lss (.t 61) (.t 60), none⟩])
 (.seq (.cond (.t 62)
 .skip
 (.exit 0))
 (.seq (.blk 1 (.seq (.reg [⟨(some 63), .ia 3 (.t 59) (.t 61), none⟩,
 ⟨(some 64), .ld true 3 (.t 63), none⟩,
 ⟨(some 3), .alloc 40 [.nsl, (.i .i64 0), (.s [])], none⟩,
 ⟨none, .st 3 (.t 3) (.t 64), none⟩])
 (.seq (.reg [⟨(some 66), .mv (.t 1), none⟩,
 ⟨(some 67), .mki 29 (.t 66), none⟩,
 ⟨(some 68), .fa 0 (.t 3), none⟩,
 ⟨(some 69), .ld false 1 (.t 68), none⟩,
 ⟨(some 70), .call f_dirs_Run [(.t 67), (.t 69)], none⟩,
 ⟨(some 65), .mv (.t 70), none⟩,
 ⟨(some 71), .ext (.t 65) 0, none⟩,
 ⟨(some 72), .ext (.t 65) 1, none⟩,
 ⟨(some 73), .ext (.t 65) 2, none⟩,
 ⟨(some 74), .ext (.t 65) 3, none⟩,
 ⟨(some 4), .mv (.t 71), none⟩,
 ⟨(some 5), .mv (.t 72), none⟩,
 ⟨(some 6), .mv (.t 73), none⟩,
 ⟨(some 7), .mv (.t 74), none⟩])
 (.seq (.reg [⟨(some 75), .mv (.t 4), none⟩,
 ⟨(some 76), .fa 1 (.t 3), none⟩,
 ⟨(some 77), .ld false 1 (.t 76), none⟩,
 ⟨(some 78), .bin .neq (.t 75) (.t 77), none⟩,
 ⟨(some 79), .mv (.t 78), none⟩,
 ⟨(some 80), .mv (.t 5), (some (79, false))⟩,
 ⟨(some 81), .bin .neq (.t 80) (.c (.s [])), (some (79, false))⟩,
 ⟨(some 82), .pick (.t 79) (.c (.b true)) (.t 81), none⟩,
 ⟨(some 83), .mv (.t 82), none⟩,
 ⟨(some 84), .mv (.t 6), (some (83, false))⟩,
 ⟨(some 85), .fa 2 (.t 3), (some (83, false))⟩,
 ⟨(some 86), .ld false 1 (.t 85), (some (83, false))⟩,
 ⟨(some 87), .bin .neq (.t 84) (.t 86), (some (83, false))⟩,
 ⟨(some 88), .pick (.t 83) (.c (.b true)) (.t 87), none⟩,
 ⟨(some 89), .mv (.t 88), none⟩,
 ⟨(some 90), .mv (.t 7), (some (89, false))⟩,
 ⟨(some 91), .un .not (.t 90), (some (89, false))⟩,
 ⟨(some 92), .pick (.t 89) (.c (.b true)) (.t 91), none⟩])
 (.cond (.t 92)
 (.seq (.reg [⟨(some 0), .mv (.c (.b false)), none⟩])
 .ret)
 .skip)))))
 (.reg [⟨(some 93), .bin .add (.t 61) (.c (.i .i64 1)), none⟩,
 ⟨(some 61), .mv (.t 93), none⟩])))))))
 (.seq (.reg [⟨(some 94), .mks 5 1 [(.i .u8 0)] (.c (.i .i64 257)) (.c (.i .i64 257)), none⟩,
 ⟨(some 8), .mv (.t 94), none⟩])
 (.seq (.seq (.reg [⟨(some 9), .mv (.c (.i .i64 0)), none⟩])
 (.blk 2 (.loop (.seq (.seq (.reg [⟨(some 95), .mv (.t 9), none⟩,
 ⟨(some 96), .mv (.t 8), none⟩,
 ⟨(some 97), .len 1 (.t 96), none⟩,
 ⟨(some 98), .bin .lss (.t 95) (.t 97), none⟩])
 (.cond (.t 98)
 .skip
 (.exit 2)))
 (.seq (.blk 3 (.seq (.thw 8)
 (.reg [⟨(some 101), .mv (.t 8), none⟩,
 ⟨(some 102), .mv (.t 9), none⟩,
 ⟨(some 103), .ia 1 (.t 101) (.t 102), none⟩,
 ⟨none, .st 1 (.t 103) (.c (.i .u8 97)), none⟩])))
 (.reg [⟨(some 99), .mv (.t 9), none⟩,
 ⟨(some 100), .bin .add (.t 99) (.c (.i .i64 1)), none⟩,
 ⟨(some 9), .mv (.t 100), none⟩]))))))
 (.seq (.reg [⟨(some 105), .mv (.t 1), none⟩,
 ⟨(some 106), .mki 29 (.t 105), none⟩,
 ⟨(some 107), .mv (.t 8), none⟩,
 ⟨(some 108), .cvBS (.t 107), none⟩,
 ⟨(some 109), .bsl 1 [(.c (.s [116, 111, 117, 99, 104])), (.t 108)], none⟩,
 ⟨(some 110), .call f_dirs_Run [(.t 106), (.t 109)], none⟩,
 ⟨(some 104), .mv (.t 110), none⟩,
 ⟨(some 111), .ext (.t 104) 0, none⟩,
 ⟨(some 112), .ext (.t 104) 1, none⟩,
 ⟨(some 113), .ext (.t 104) 2, none⟩,
 ⟨(some 114), .ext (.t 104) 3, none⟩,
 ⟨(some 10), .mv (.t 111), none⟩,
 ⟨(some 11), .mv (.t 112), none⟩,
 ⟨(some 12), .mv (.t 113), none⟩,
 ⟨(some 13), .mv (.t 114), none⟩])
 (.seq (.seq (.regD [⟨(some 115), .mv (.t 10), none⟩,
 ⟨(some 116), .bin .neq (.t 115) (.c (.i .i64 1)), none⟩,
 ⟨(some 117), .mv (.t 116), none⟩,
 ⟨(some 118), .mv (.t 12), (some (117, false))⟩,
 ⟨(some 119), .mv (.t 8), (some (117, false))⟩,
 ⟨(some 120), .cvBS (.t 119), (some (117, false))⟩,
 ⟨(some 121), .bin .add (.c (.s [116, 111, 117, 99, 104, 58, 32])) (.t 120), (some (117, false))⟩,
 ⟨(some 122), .bin .add (.t 121) (.c (.s [58, 32])), (some (117, false))⟩,
 ⟨(some 123), .call f_dirs_Reason [(.c (.i .i64 40))], (some (117, false))⟩,
 ⟨(some 124), .bin .add (.t 122) (.t 123), (some (117, false))⟩,
 ⟨(some 125), .bin .add (.t 124) (.c (.s [10])), (some (117, false))⟩,
 ⟨(some 126), .bin .neq (.t 118) (.t 125), (some (117, false))⟩,
 ⟨(some 127), .pick (.t 117) (.c (.b true)) (.t 126), none⟩,
 ⟨(some 128), .mv (.t 127), none⟩,
 ⟨(some 129), .mv (.t 13), (some (128, false))⟩,
 ⟨(some 130), .un .not (.t 129), (some (128, false))⟩,
 ⟨(some 131), .pick (.t 128) (.c (.b true)) (.t 130), none⟩] [(5, (5, 9))])
 (.cond (.t 131)
 (.seq (.reg [⟨(some 0), .mv (.c (.b false)), none⟩])
 .ret)
 .skip))
 (.seq (.reg [⟨(some 133), .mv (.t 1), none⟩,
 ⟨(some 134), .mki 29 (.t 133), none⟩,
 ⟨(some 135), .bsl 1 [(.c (.s [108, 115]))], none⟩,
 ⟨(some 136), .call f_dirs_Run [(.t 134), (.t 135)], none⟩,
 ⟨(some 132), .mv (.t 136), none⟩,
 ⟨(some 137), .ext (.t 132) 0, none⟩,
 ⟨(some 138), .ext (.t 132) 1, none⟩,
 ⟨(some 139), .ext (.t 132) 2, none⟩,
 ⟨(some 140), .ext (.t 132) 3, none⟩,
 ⟨(some 14), .mv (.t 137), none⟩,
 ⟨(some 15), .mv (.t 138), none⟩,
 ⟨(some 16), .mv (.t 139), none⟩,
 ⟨(some 17), .mv (.t 140), none⟩])
 (.seq (.reg [⟨(some 142), .mv (.t 1), none⟩,
 ⟨(some 143), .mki 29 (.t 142), none⟩,
 ⟨(some 144), .call f_dirs_Run [(.t 143), (.c .nsl)], none⟩,
 ⟨(some 141), .mv (.t 144), none⟩,
 ⟨(some 145), .ext (.t 141) 0, none⟩,
 ⟨(some 146), .ext (.t 141) 1, none⟩,
 ⟨(some 147), .ext (.t 141) 2, none⟩,
 ⟨(some 148), .ext (.t 141) 3, none⟩,
 ⟨(some 18), .mv (.t 145), none⟩,
 ⟨(some 19), .mv (.t 146), none⟩,
 ⟨(some 20), .mv (.t 147), none⟩,
 ⟨(some 21), .mv (.t 148), none⟩])
 (.seq (.reg [⟨(some 150), .bsl 1 [(.c (.s [109, 107, 100, 105, 114])), (.c (.s [120]))], none⟩,
 ⟨(some 151), .call f_dirs_Run [(.c .ni), (.t 150)], none⟩,
 ⟨(some 149), .mv (.t 151), none⟩,
 ⟨(some 152), .ext (.t 149) 0, none⟩,
 ⟨(some 153), .ext (.t 149) 1, none⟩,
 ⟨(some 154), .ext (.t 149) 2, none⟩,
 ⟨(some 155), .ext (.t 149) 3, none⟩,
 ⟨(some 22), .mv (.t 152), none⟩,
 ⟨(some 23), .mv (.t 153), none⟩,
 ⟨(some 24), .mv (.t 154), none⟩,
 ⟨(some 25), .mv (.t 155), none⟩])
 (.seq (.reg [⟨(some 156), .mv (.t 17), none⟩,
 ⟨(some 157), .un .not (.t 156), none⟩,
 ⟨(some 158), .mv (.t 157), none⟩,
 ⟨(some 159), .mv (.t 21), (some (158, true))⟩,
 ⟨(some 160), .un .not (.t 159), (some (158, true))⟩,
 ⟨(some 161), .pick (.t 158) (.t 160) (.c (.b false)), none⟩,
 ⟨(some 162), .mv (.t 161), none⟩,
 ⟨(some 163), .mv (.t 25), (some (162, true))⟩,
 ⟨(some 164), .un .not (.t 163), (some (162, true))⟩,
 ⟨(some 165), .pick (.t 162) (.t 164) (.c (.b false)), none⟩,
 ⟨(some 166), .mv (.t 165), none⟩,
 ⟨(some 167), .mv (.t 1), (some (166, true))⟩,
 ⟨(some 168), .bsl 1 [(.c (.s [109]))], (some (166, true))⟩,
 ⟨(some 169), .call f_ftree_Tree_Kind [(.t 167), (.t 168)], (some (166, true))⟩,
 ⟨(some 170), .bin .eql (.t 169) (.c (.i .u8 2)), (some (166, true))⟩,
 ⟨(some 171), .pick (.t 166) (.t 170) (.c (.b false)), none⟩,
 ⟨(some 172), .mv (.t 171), none⟩,
 ⟨(some 173), .mv (.t 1), (some (172, true))⟩,
 ⟨(some 174), .bsl 1 [(.c (.s [100]))], (some (172, true))⟩,
 ⟨(some 175), .call f_ftree_Tree_Kind [(.t 173), (.t 174)], (some (172, true))⟩,
 ⟨(some 176), .bin .eql (.t 175) (.c (.i .u8 0)), (some (172, true))⟩,
 ⟨(some 177), .pick (.t 172) (.t 176) (.c (.b false)), none⟩,
 ⟨(some 178), .mv (.t 177), none⟩,
 ⟨(some 179), .call f_dirs_Reason [(.c (.i .i64 0))], (some (178, true))⟩,
 ⟨(some 180), .bin .eql (.t 179) (.c (.s [119, 114, 111, 110, 103])), (some (178, true))⟩,
 ⟨(some 181), .pick (.t 178) (.t 180) (.c (.b false)), none⟩,
 ⟨(some 182), .mv (.t 181), none⟩,
 ⟨(some 183), .call f_touchstonelaw12_awake [], (some (182, true))⟩,
 ⟨(some 184), .pick (.t 182) (.t 183) (.c (.b false)), none⟩,
 ⟨(some 0), .mv (.t 184), none⟩])
 .ret)))))))))))) }
def c_touchstonelaw12_awake : Fun := { cin := [], cout := [.id], ntmps := 63, keep := false, res := [(0, none)], body :=
 (.seq (.reg [⟨(some 0), .mv (.c (.b false)), none⟩])
 (.seq (.reg [⟨(some 10), .call f_touchstonelaw12_example [], none⟩,
 ⟨(some 1), .mv (.t 10), none⟩])
 (.seq (.seq (.reg [⟨(some 11), .mv (.t 1), none⟩,
 ⟨(some 12), .eq .ptr false (.t 11) (.c .np), none⟩])
 (.cond (.t 12)
 (.seq (.reg [⟨(some 0), .mv (.c (.b false)), none⟩])
 .ret)
 .skip))
 (.seq (.reg [⟨(some 14), .mv (.t 1), none⟩,
 ⟨(some 15), .mki 29 (.t 14), none⟩,
 ⟨(some 16), .bsl 1 [(.c (.s [109, 107, 100, 105, 114])), (.c (.s [97])), (.c (.s [100, 47, 120]))], none⟩,
 ⟨(some 17), .call f_dirs_Run [(.t 15), (.t 16)], none⟩,
 ⟨(some 13), .mv (.t 17), none⟩,
 ⟨(some 18), .ext (.t 13) 0, none⟩,
 ⟨(some 19), .ext (.t 13) 1, none⟩,
 ⟨(some 20), .ext (.t 13) 2, none⟩,
 ⟨(some 21), .ext (.t 13) 3, none⟩,
 ⟨(some 2), .mv (.t 18), none⟩,
 ⟨(some 3), .mv (.t 19), none⟩,
 ⟨(some 4), .mv (.t 20), none⟩,
 ⟨(some 5), .mv (.t 21), none⟩])
 (.seq (.reg [⟨(some 23), .mv (.t 1), none⟩,
 ⟨(some 24), .mki 29 (.t 23), none⟩,
 ⟨(some 25), .bsl 1 [(.c (.s [114, 109])), (.c (.s [45, 114, 102])), (.c (.s [100, 47, 101])), (.c (.s [122]))], none⟩,
 ⟨(some 26), .call f_dirs_Run [(.t 24), (.t 25)], none⟩,
 ⟨(some 22), .mv (.t 26), none⟩,
 ⟨(some 27), .ext (.t 22) 0, none⟩,
 ⟨(some 28), .ext (.t 22) 1, none⟩,
 ⟨(some 29), .ext (.t 22) 2, none⟩,
 ⟨(some 30), .ext (.t 22) 3, none⟩,
 ⟨(some 6), .mv (.t 27), none⟩,
 ⟨(some 7), .mv (.t 28), none⟩,
 ⟨(some 8), .mv (.t 29), none⟩,
 ⟨(some 9), .mv (.t 30), none⟩])
 (.seq (.reg [⟨(some 31), .mv (.t 2), none⟩,
 ⟨(some 32), .bin .eql (.t 31) (.c (.i .i64 1)), none⟩,
 ⟨(some 33), .mv (.t 32), none⟩,
 ⟨(some 34), .mv (.t 3), (some (33, true))⟩,
 ⟨(some 35), .bin .eql (.t 34) (.c (.s [])), (some (33, true))⟩,
 ⟨(some 36), .pick (.t 33) (.t 35) (.c (.b false)), none⟩,
 ⟨(some 37), .mv (.t 36), none⟩,
 ⟨(some 38), .mv (.t 4), (some (37, true))⟩,
 ⟨(some 39), .bin .eql (.t 38) (.c (.s [109, 107, 100, 105, 114, 58, 32, 97, 58, 32, 116, 104, 101, 114, 101, 32, 97, 108, 114, 101, 97, 100, 121, 10])), (some (37, true))⟩,
 ⟨(some 40), .pick (.t 37) (.t 39) (.c (.b false)), none⟩,
 ⟨(some 41), .mv (.t 40), none⟩,
 ⟨(some 42), .mv (.t 5), (some (41, true))⟩,
 ⟨(some 43), .pick (.t 41) (.t 42) (.c (.b false)), none⟩,
 ⟨(some 44), .mv (.t 43), none⟩,
 ⟨(some 45), .mv (.t 6), (some (44, true))⟩,
 ⟨(some 46), .bin .eql (.t 45) (.c (.i .i64 0)), (some (44, true))⟩,
 ⟨(some 47), .pick (.t 44) (.t 46) (.c (.b false)), none⟩,
 ⟨(some 48), .mv (.t 47), none⟩,
 ⟨(some 49), .mv (.t 9), (some (48, true))⟩,
 ⟨(some 50), .pick (.t 48) (.t 49) (.c (.b false)), none⟩,
 ⟨(some 51), .mv (.t 50), none⟩,
 ⟨(some 52), .mv (.t 1), (some (51, true))⟩,
 ⟨(some 53), .bsl 1 [(.c (.s [100])), (.c (.s [120]))], (some (51, true))⟩,
 ⟨(some 54), .call f_ftree_Tree_Kind [(.t 52), (.t 53)], (some (51, true))⟩,
 ⟨(some 55), .bin .eql (.t 54) (.c (.i .u8 2)), (some (51, true))⟩,
 ⟨(some 56), .pick (.t 51) (.t 55) (.c (.b false)), none⟩,
 ⟨(some 57), .mv (.t 56), none⟩,
 ⟨(some 58), .mv (.t 1), (some (57, true))⟩,
 ⟨(some 59), .bsl 1 [(.c (.s [100])), (.c (.s [101]))], (some (57, true))⟩,
 ⟨(some 60), .call f_ftree_Tree_Kind [(.t 58), (.t 59)], (some (57, true))⟩,
 ⟨(some 61), .bin .eql (.t 60) (.c (.i .u8 0)), (some (57, true))⟩,
 ⟨(some 62), .pick (.t 57) (.t 61) (.c (.b false)), none⟩,
 ⟨(some 0), .mv (.t 62), none⟩])
 .ret)))))) }
def c_ftree_New : Fun := { cin := [(.agg [.id, .id, (.sl 1 .id), (.sl 4 (.agg [.id, .id, (.sl 1 .id), (.sl 4 (.agg [.id, .id, (.sl 1 .id), (.sl 4 .id)]))]))])], cout := [.id, .id], ntmps := 11, keep := false, res := [(2, none), (3, none)], body :=
 (.seq (.reg [⟨(some 1), .box 25 4 (.t 0), none⟩,
 ⟨(some 2), .mv (.c .np), none⟩,
 ⟨(some 3), .mv (.c (.i .i64 0)), none⟩])
 (.seq (.seq (.reg [⟨(some 4), .ld true 4 (.t 1), none⟩,
 ⟨(some 5), .call f_ftree_May [(.t 4)], none⟩,
 ⟨(some 6), .un .not (.t 5), none⟩])
 (.cond (.t 6)
 (.seq (.reg [⟨(some 2), .mv (.c .np), none⟩,
 ⟨(some 3), .mv (.c (.i .i64 4)), none⟩])
 .ret)
 .skip))
 (.seq (.reg [⟨(some 7), .ld true 4 (.t 1), none⟩,
 ⟨(some 8), .call f_ftree_own [(.t 7)], none⟩,
 ⟨(some 9), .build [(.i .u8 0), (.s []), .nsl, .nsl] [(0, 4, (.t 8))], none⟩,
 ⟨(some 10), .box 97 4 (.t 9), none⟩,
 ⟨(some 2), .mv (.t 10), none⟩,
 ⟨(some 3), .mv (.c (.i .i64 0)), none⟩])
 .ret))) }
def c_dirs_Run : Fun := { cin := [.id, (.sl 1 .id)], cout := [.id, .id, .id, .id], ntmps := 96, keep := false, res := [(4, none), (5, none), (6, none), (7, none)], body :=
 (.seq (.reg [⟨(some 4), .mv (.c (.i .i64 0)), none⟩,
 ⟨(some 5), .mv (.c (.s [])), none⟩,
 ⟨(some 6), .mv (.c (.s [])), none⟩,
 ⟨(some 7), .mv (.c (.b false)), none⟩])
 (.seq (.seq (.reg [⟨(some 16), .mv (.t 0), none⟩,
 ⟨(some 17), .eq .ifc false (.t 16) (.c .ni), none⟩,
 ⟨(some 18), .mv (.t 17), none⟩,
 ⟨(some 19), .mv (.t 1), (some (18, false))⟩,
 ⟨(some 20), .len 1 (.t 19), (some (18, false))⟩,
 ⟨(some 21), .bin .eql (.t 20) (.c (.i .i64 0)), (some (18, false))⟩,
 ⟨(some 22), .pick (.t 18) (.c (.b true)) (.t 21), none⟩])
 (.cond (.t 22)
 (.seq (.reg [⟨(some 4), .mv (.c (.i .i64 0)), none⟩,
 ⟨(some 5), .mv (.c (.s [])), none⟩,
 ⟨(some 6), .mv (.c (.s [])), none⟩,
 ⟨(some 7), .mv (.c (.b false)), none⟩])
 .ret)
 .skip))
 (.seq (.reg [⟨(some 23), .mv (.t 1), none⟩,
 ⟨(some 24), .ia 1 (.t 23) (.c (.i .i64 0)), none⟩,
 ⟨(some 25), .ld false 1 (.t 24), none⟩,
 ⟨(some 8), .mv (.t 25), none⟩])
 (.seq (.reg [⟨(some 27), .call f_dirs_utilities [], none⟩,
 ⟨(some 28), .mv (.t 8), none⟩,
 ⟨(some 29), .look 1 (.agg [(.s []), .nf, .nf]) true (.t 27) (.t 28), none⟩,
 ⟨(some 26), .mv (.t 29), none⟩,
 ⟨(some 30), .ext (.t 26) 0, none⟩,
 ⟨(some 31), .ext (.t 26) 1, none⟩,
 ⟨(some 9), .alloc 103 [(.s []), .nf, .nf], none⟩,
 ⟨none, .st 3 (.t 9) (.t 30), none⟩,
 ⟨(some 7), .mv (.t 31), none⟩])
 (.seq (.seq (.reg [⟨(some 32), .mv (.t 7), none⟩,
 ⟨(some 33), .un .not (.t 32), none⟩])
 (.cond (.t 33)
 (.seq (.reg [⟨(some 4), .mv (.c (.i .i64 0)), none⟩,
 ⟨(some 5), .mv (.c (.s [])), none⟩,
 ⟨(some 6), .mv (.c (.s [])), none⟩,
 ⟨(some 7), .mv (.c (.b false)), none⟩])
 .ret)
 .skip))
 (.seq (.regD [⟨(some 35), .fa 0 (.t 9), none⟩,
 ⟨(some 36), .ld false 1 (.t 35), none⟩,
 ⟨(some 37), .mv (.t 1), none⟩,
 ⟨(some 38), .slc false 1 (.t 37) (some (.c (.i .i64 1))) none none, none⟩,
 ⟨(some 39), .mv (.t 1), none⟩,
 ⟨(some 40), .len 1 (.t 39), none⟩,
 ⟨(some 41), .call f_opts_Parse [(.t 36), (.t 38), (.c (.i .i64 0)), (.t 40)], none⟩,
 ⟨(some 34), .mv (.t 41), none⟩,
 ⟨(some 42), .ext (.t 34) 0, none⟩,
 ⟨(some 43), .ext (.t 34) 1, none⟩,
 ⟨none, .mv (.c (.tup [])), none⟩,
 ⟨(some 10), .adp 108 [(.s []), .nsl] 2 (.t 42), none⟩,
 ⟨(some 11), .mv (.t 43), none⟩] [])
 (.seq (.reg [⟨(some 44), .mv (.t 0), none⟩,
 ⟨(some 45), .ld true 2 (.t 10), none⟩,
 ⟨(some 46), .build [.ni, (.s []), .nsl] [(0, 1, (.t 44)), (1, 2, (.t 45))], none⟩,
 ⟨(some 12), .alloc 112 [.ni, (.s []), .nsl], none⟩,
 ⟨none, .st 3 (.t 12) (.t 46), none⟩])
 (.seq (.seq (.reg [⟨(some 47), .mv (.t 11), none⟩,
 ⟨(some 48), .bin .neq (.t 47) (.c (.i .i64 0)), none⟩,
 ⟨(some 49), .mv (.t 48), none⟩,
 ⟨(some 50), .fa 1 (.t 10), (some (49, false))⟩,
 ⟨(some 51), .ld false 1 (.t 50), (some (49, false))⟩,
 ⟨(some 52), .len 1 (.t 51), (some (49, false))⟩,
 ⟨(some 53), .bin .eql (.t 52) (.c (.i .i64 0)), (some (49, false))⟩,
 ⟨(some 54), .mv (.t 53), (some (49, false))⟩,
 ⟨(some 55), .fa 1 (.t 9), (some (54, true))⟩,
 ⟨(some 56), .ld false 1 (.t 55), (some (54, true))⟩,
 ⟨(some 57), .ld true 3 (.t 12), (some (54, true))⟩,
 ⟨(some 58), .callX (.t 56) [(.t 57)], (some (54, true))⟩,
 ⟨(some 59), .un .not (.t 58), (some (54, true))⟩,
 ⟨(some 60), .pick (.t 54) (.t 59) (.c (.b false)), (some (49, false))⟩,
 ⟨(some 61), .pick (.t 49) (.c (.b true)) (.t 60), none⟩])
 (.cond (.t 61)
 (.seq (.reg [⟨(some 62), .mv (.t 8), none⟩,
 ⟨(some 63), .bin .add (.t 62) (.c (.s [58, 32, 117, 115, 97, 103, 101, 10])), none⟩,
 ⟨(some 4), .mv (.c (.i .i64 2)), none⟩,
 ⟨(some 5), .mv (.c (.s [])), none⟩,
 ⟨(some 6), .mv (.t 63), none⟩,
 ⟨(some 7), .mv (.c (.b true)), none⟩])
 .ret)
 .skip))
 (.seq (.seq (.reg [⟨(some 64), .fa 1 (.t 10), none⟩,
 ⟨(some 65), .ld false 1 (.t 64), none⟩,
 ⟨(some 66), .len 1 (.t 65), none⟩,
 ⟨(some 67), .mv (.c (.i .i64 0)), none⟩])
 (.blk 0 (.loop (.seq (.reg [⟨(some 68), .bin .lss (.t 67) (.t 66), none⟩])
 (.seq (.cond (.t 68)
 .skip
 (.exit 0))
 (.seq (.blk 1 (.seq (.reg [⟨(some 69), .ia 1 (.t 65) (.t 67), none⟩,
 ⟨(some 70), .ld false 1 (.t 69), none⟩,
 ⟨(some 14), .mv (.t 70), none⟩])
 (.seq (.reg [⟨(some 71), .mv (.t 14), none⟩,
 ⟨(some 72), .call f_path_Check [(.t 71)], none⟩,
 ⟨(some 15), .mv (.t 72), none⟩])
 (.seq (.seq (.reg [⟨(some 73), .mv (.t 15), none⟩,
 ⟨(some 74), .bin .eql (.t 73) (.c (.i .i64 0)), none⟩])
 (.cond (.t 74)
 (.reg [⟨(some 75), .fa 2 (.t 9), none⟩,
 ⟨(some 76), .ld false 1 (.t 75), none⟩,
 ⟨(some 77), .ld true 3 (.t 12), none⟩,
 ⟨(some 78), .mv (.t 14), none⟩,
 ⟨(some 79), .callX (.t 76) [(.t 77), (.t 78)], none⟩,
 ⟨(some 15), .mv (.t 79), none⟩])
 .skip))
 (.seq (.reg [⟨(some 80), .mv (.t 15), none⟩,
 ⟨(some 81), .bin .neq (.t 80) (.c (.i .i64 0)), none⟩])
 (.cond (.t 81)
 (.seq (.reg [⟨(some 4), .mv (.c (.i .i64 1)), none⟩])
 (.reg [⟨(some 82), .mv (.t 6), none⟩,
 ⟨(some 83), .mv (.t 8), none⟩,
 ⟨(some 84), .bin .add (.t 83) (.c (.s [58, 32])), none⟩,
 ⟨(some 85), .mv (.t 14), none⟩,
 ⟨(some 86), .bin .add (.t 84) (.t 85), none⟩,
 ⟨(some 87), .bin .add (.t 86) (.c (.s [58, 32])), none⟩,
 ⟨(some 88), .mv (.t 15), none⟩,
 ⟨(some 89), .call f_dirs_Reason [(.t 88)], none⟩,
 ⟨(some 90), .bin .add (.t 87) (.t 89), none⟩,
 ⟨(some 91), .bin .add (.t 90) (.c (.s [10])), none⟩,
 ⟨(some 92), .bin .add (.t 82) (.t 91), none⟩,
 ⟨(some 6), .mv (.t 92), none⟩]))
 .skip))))))
 (.reg [⟨(some 93), .bin .add (.t 67) (.c (.i .i64 1)), none⟩,
 ⟨(some 67), .mv (.t 93), none⟩])))))))
 (.seq (.reg [⟨(some 94), .mv (.t 4), none⟩,
 ⟨(some 95), .mv (.t 6), none⟩,
 ⟨(some 4), .mv (.t 94), none⟩,
 ⟨(some 5), .mv (.c (.s [])), none⟩,
 ⟨(some 6), .mv (.t 95), none⟩,
 ⟨(some 7), .mv (.c (.b true)), none⟩])
 .ret)))))))))) }
def c_ftree_Well : Fun := { cin := [(.agg [.id, .id, (.sl 1 .id), (.sl 4 (.agg [.id, .id, (.sl 1 .id), (.sl 4 (.agg [.id, .id, (.sl 1 .id), (.sl 4 .id)]))]))])], cout := [.id], ntmps := 89, keep := false, res := [(2, none)], body :=
 (.seq (.reg [⟨(some 1), .box 25 4 (.t 0), none⟩,
 ⟨(some 2), .mv (.c (.b false)), none⟩])
 (.seq (.seq (.reg [⟨(some 5), .fa 0 (.t 1), none⟩,
 ⟨(some 6), .ld false 1 (.t 5), none⟩])
 (.blk 0 (.seq (.seq (.reg [⟨(some 8), .bin .eql (.t 6) (.c (.i .u8 1)), none⟩,
 ⟨(some 7), .mv (.t 8), none⟩])
 (.cond (.t 7)
 .skip
 (.reg [⟨(some 9), .bin .eql (.t 6) (.c (.i .u8 3)), none⟩,
 ⟨(some 7), .mv (.t 9), none⟩])))
 (.cond (.t 7)
 (.seq (.reg [⟨(some 10), .fa 2 (.t 1), none⟩,
 ⟨(some 11), .ld false 1 (.t 10), none⟩,
 ⟨(some 12), .len 1 (.t 11), none⟩,
 ⟨(some 13), .fa 3 (.t 1), none⟩,
 ⟨(some 14), .ld false 1 (.t 13), none⟩,
 ⟨(some 15), .len 1 (.t 14), none⟩,
 ⟨(some 16), .bin .add (.t 12) (.t 15), none⟩,
 ⟨(some 17), .bin .eql (.t 16) (.c (.i .i64 0)), none⟩,
 ⟨(some 18), .mv (.t 17), none⟩,
 ⟨(some 19), .fa 1 (.t 1), (some (18, true))⟩,
 ⟨(some 20), .ld false 1 (.t 19), (some (18, true))⟩,
 ⟨(some 21), .len 0 (.t 20), (some (18, true))⟩,
 ⟨(some 22), .bin .leq (.t 21) (.c (.i .i64 256)), (some (18, true))⟩,
 ⟨(some 23), .pick (.t 18) (.t 22) (.c (.b false)), none⟩,
 ⟨(some 24), .mv (.t 23), none⟩,
 ⟨(some 25), .fa 1 (.t 1), (some (24, true))⟩,
 ⟨(some 26), .ld false 1 (.t 25), (some (24, true))⟩,
 ⟨(some 27), .call f_strings_IndexByte [(.t 26), (.c (.i .u8 0))], (some (24, true))⟩,
 ⟨(some 28), .bin .lss (.t 27) (.c (.i .i64 0)), (some (24, true))⟩,
 ⟨(some 29), .pick (.t 24) (.t 28) (.c (.b false)), none⟩,
 ⟨(some 30), .mv (.t 29), none⟩,
 ⟨(some 31), .fa 0 (.t 1), (some (30, true))⟩,
 ⟨(some 32), .ld false 1 (.t 31), (some (30, true))⟩,
 ⟨(some 33), .bin .eql (.t 32) (.c (.i .u8 1)), (some (30, true))⟩,
 ⟨(some 34), .mv (.t 33), (some (30, true))⟩,
 ⟨(some 35), .fa 1 (.t 1), (some (34, false))⟩,
 ⟨(some 36), .ld false 1 (.t 35), (some (34, false))⟩,
 ⟨(some 37), .bin .neq (.t 36) (.c (.s [])), (some (34, false))⟩,
 ⟨(some 38), .pick (.t 34) (.c (.b true)) (.t 37), (some (30, true))⟩,
 ⟨(some 39), .pick (.t 30) (.t 38) (.c (.b false)), none⟩,
 ⟨(some 2), .mv (.t 39), none⟩])
 .ret)
 (.seq (.reg [⟨(some 41), .bin .eql (.t 6) (.c (.i .u8 2)), none⟩,
 ⟨(some 40), .mv (.t 41), none⟩])
 (.cond (.t 40)
 (.seq (.seq (.reg [⟨(some 42), .fa 1 (.t 1), none⟩,
 ⟨(some 43), .ld false 1 (.t 42), none⟩,
 ⟨(some 44), .bin .neq (.t 43) (.c (.s [])), none⟩,
 ⟨(some 45), .mv (.t 44), none⟩,
 ⟨(some 46), .fa 2 (.t 1), (some (45, false))⟩,
 ⟨(some 47), .ld false 1 (.t 46), (some (45, false))⟩,
 ⟨(some 48), .len 1 (.t 47), (some (45, false))⟩,
 ⟨(some 49), .fa 3 (.t 1), (some (45, false))⟩,
 ⟨(some 50), .ld false 1 (.t 49), (some (45, false))⟩,
 ⟨(some 51), .len 1 (.t 50), (some (45, false))⟩,
 ⟨(some 52), .bin .neq (.t 48) (.t 51), (some (45, false))⟩,
 ⟨(some 53), .pick (.t 45) (.c (.b true)) (.t 52), none⟩])
 (.cond (.t 53)
 (.seq (.reg [⟨(some 2), .mv (.c (.b false)), none⟩])
 .ret)
 .skip))
 (.seq (.seq (.reg [⟨(some 54), .fa 2 (.t 1), none⟩,
 ⟨(some 55), .ld false 1 (.t 54), none⟩,
 ⟨(some 56), .len 1 (.t 55), none⟩,
 ⟨(some 57), .mv (.c (.i .i64 0)), none⟩])
 (.blk 1 (.loop (.seq (.reg [⟨(some 58), .bin .lss (.t 57) (.t 56), none⟩])
 (.seq (.cond (.t 58)
 .skip
 (.exit 1))
 (.seq (.blk 2 (.seq (.reg [⟨(some 59), .mv (.t 57), none⟩,
 ⟨(some 60), .ia 1 (.t 55) (.t 57), none⟩,
 ⟨(some 61), .ld false 1 (.t 60), none⟩,
 ⟨(some 3), .mv (.t 59), none⟩,
 ⟨(some 4), .mv (.t 61), none⟩])
 (.seq (.reg [⟨(some 62), .mv (.t 4), none⟩,
 ⟨(some 63), .call f_path_Name [(.t 62)], none⟩,
 ⟨(some 64), .un .not (.t 63), none⟩,
 ⟨(some 65), .mv (.t 64), none⟩,
 ⟨(some 66), .mv (.t 3), (some (65, false))⟩,
 ⟨(some 67), .bin .gtr (.t 66) (.c (.i .i64 0)), (some (65, false))⟩,
 ⟨(some 68), .mv (.t 67), (some (65, false))⟩,
 ⟨(some 69), .mv (.t 4), (some (68, true))⟩,
 ⟨(some 70), .fa 2 (.t 1), (some (68, true))⟩,
 ⟨(some 71), .ld false 1 (.t 70), (some (68, true))⟩,
 ⟨(some 72), .mv (.t 3), (some (68, true))⟩,
 ⟨(some 73), .bin .sub (.t 72) (.c (.i .i64 1)), (some (68, true))⟩,
 ⟨(some 74), .ia 1 (.t 71) (.t 73), (some (68, true))⟩,
 ⟨(some 75), .ld false 1 (.t 74), (some (68, true))⟩,
 ⟨(some 76), .bin .leq (.t 69) (.t 75), (some (68, true))⟩,
 ⟨(some 77), .pick (.t 68) (.t 76) (.c (.b false)), (some (65, false))⟩,
 ⟨(some 78), .pick (.t 65) (.c (.b true)) (.t 77), none⟩,
 ⟨(some 79), .mv (.t 78), none⟩,
 ⟨(some 80), .fa 3 (.t 1), (some (79, false))⟩,
 ⟨(some 81), .ld false 1 (.t 80), (some (79, false))⟩,
 ⟨(some 82), .mv (.t 3), (some (79, false))⟩,
 ⟨(some 83), .ia 4 (.t 81) (.t 82), (some (79, false))⟩,
 ⟨(some 84), .ld true 4 (.t 83), (some (79, false))⟩,
 ⟨(some 85), .call f_ftree_Well [(.t 84)], (some (79, false))⟩,
 ⟨(some 86), .un .not (.t 85), (some (79, false))⟩,
 ⟨(some 87), .pick (.t 79) (.c (.b true)) (.t 86), none⟩])
 (.cond (.t 87)
 (.seq (.reg [⟨(some 2), .mv (.c (.b false)), none⟩])
 .ret)
 .skip))))
 (.reg [⟨(some 88), .bin .add (.t 57) (.c (.i .i64 1)), none⟩,
 ⟨(some 57), .mv (.t 88), none⟩])))))))
 (.seq (.reg [⟨(some 2), .mv (.c (.b true)), none⟩])
 .ret)))
 .skip))))))
 (.seq (.reg [⟨(some 2), .mv (.c (.b false)), none⟩])
 .ret))) }
def c_touchstonelaw12_example : Fun := { cin := [], cout := [.id], ntmps := 18, keep := false, res := [(0, none)], body :=
 (.seq (.reg [⟨(some 0), .mv (.c .np), none⟩])
 (.seq (.reg [⟨(some 4), .bsl 1 [(.c (.s [97])), (.c (.s [100]))], none⟩,
 ⟨(some 5), .build [(.i .u8 0), (.s []), .nsl, .nsl] [(0, 1, (.c (.i .u8 1))), (1, 1, (.c (.s [120])))], none⟩,
 ⟨(some 6), .bsl 1 [(.c (.s [101]))], none⟩,
 ⟨(some 7), .build [(.i .u8 0), (.s []), .nsl, .nsl] [(0, 1, (.c (.i .u8 1)))], none⟩,
 ⟨(some 8), .bsl 4 [(.t 7)], none⟩,
 ⟨(some 9), .build [(.i .u8 0), (.s []), .nsl, .nsl] [(0, 1, (.c (.i .u8 2))), (2, 1, (.t 6)), (3, 1, (.t 8))], none⟩,
 ⟨(some 10), .bsl 4 [(.t 5), (.t 9)], none⟩,
 ⟨(some 11), .build [(.i .u8 0), (.s []), .nsl, .nsl] [(0, 1, (.c (.i .u8 2))), (2, 1, (.t 4)), (3, 1, (.t 10))], none⟩,
 ⟨(some 12), .call f_ftree_New [(.t 11)], none⟩,
 ⟨(some 3), .mv (.t 12), none⟩,
 ⟨(some 13), .ext (.t 3) 0, none⟩,
 ⟨(some 14), .ext (.t 3) 1, none⟩,
 ⟨(some 1), .mv (.t 13), none⟩,
 ⟨(some 2), .mv (.t 14), none⟩])
 (.seq (.seq (.reg [⟨(some 15), .mv (.t 2), none⟩,
 ⟨(some 16), .bin .neq (.t 15) (.c (.i .i64 0)), none⟩])
 (.cond (.t 16)
 (.seq (.reg [⟨(some 0), .mv (.c .np), none⟩])
 .ret)
 .skip))
 (.seq (.reg [⟨(some 17), .mv (.t 1), none⟩,
 ⟨(some 0), .mv (.t 17), none⟩])
 .ret)))) }
def c_dirs_Reason : Fun := { cin := [.id], cout := [.id], ntmps := 15, keep := false, res := [(2, none)], body :=
 (.seq (.reg [⟨(some 2), .mv (.c (.s [])), none⟩])
 (.seq (.reg [⟨(some 6), .mkm, none⟩,
 ⟨none, .ins 0 (.t 6) (.c (.i .i64 5)) (.c (.s [110, 111, 116, 32, 116, 104, 101, 114, 101])), none⟩,
 ⟨none, .ins 0 (.t 6) (.c (.i .i64 6)) (.c (.s [116, 104, 101, 114, 101, 32, 97, 108, 114, 101, 97, 100, 121])), none⟩,
 ⟨none, .ins 0 (.t 6) (.c (.i .i64 55)) (.c (.s [119, 114, 111, 110, 103, 32, 107, 105, 110, 100])), none⟩,
 ⟨none, .ins 0 (.t 6) (.c (.i .i64 57)) (.c (.s [110, 111, 116, 32, 101, 109, 112, 116, 121])), none⟩,
 ⟨none, .ins 0 (.t 6) (.c (.i .i64 58)) (.c (.s [105, 110, 116, 111, 32, 105, 116, 115, 101, 108, 102])), none⟩,
 ⟨none, .ins 0 (.t 6) (.c (.i .i64 61)) (.c (.s [116, 111, 111, 32, 109, 97, 110, 121, 32, 108, 105, 110, 107, 115])), none⟩,
 ⟨none, .ins 0 (.t 6) (.c (.i .i64 40)) (.c (.s [116, 111, 111, 32, 108, 97, 114, 103, 101])), none⟩,
 ⟨none, .ins 0 (.t 6) (.c (.i .i64 4)) (.c (.s [98, 97, 100, 32, 110, 97, 109, 101])), none⟩,
 ⟨(some 7), .mv (.t 6), none⟩,
 ⟨(some 8), .mv (.t 0), none⟩,
 ⟨(some 9), .look 0 (.s []) true (.t 7) (.t 8), none⟩,
 ⟨(some 5), .mv (.t 9), none⟩,
 ⟨(some 10), .ext (.t 5) 0, none⟩,
 ⟨(some 11), .ext (.t 5) 1, none⟩,
 ⟨(some 3), .mv (.t 10), none⟩,
 ⟨(some 4), .mv (.t 11), none⟩])
 (.seq (.seq (.reg [⟨(some 12), .mv (.t 4), none⟩,
 ⟨(some 13), .un .not (.t 12), none⟩])
 (.cond (.t 13)
 (.seq (.reg [⟨(some 2), .mv (.c (.s [119, 114, 111, 110, 103])), none⟩])
 .ret)
 .skip))
 (.seq (.reg [⟨(some 14), .mv (.t 3), none⟩,
 ⟨(some 2), .mv (.t 14), none⟩])
 .ret)))) }
def c_ftree_Tree_Kind : Fun := { cin := [.id, (.sl 1 .id)], cout := [.id], ntmps := 9, keep := false, res := [(4, none)], body :=
 (.seq (.reg [⟨(some 4), .mv (.c (.i .u8 0)), none⟩])
 (.seq (.reg [⟨(some 5), .mv (.t 0), none⟩,
 ⟨(some 6), .mv (.t 1), none⟩,
 ⟨(some 7), .call f_ftree_Tree_at [(.t 5), (.t 6)], none⟩,
 ⟨(some 8), .fld false 0 1 (.t 7), none⟩,
 ⟨(some 4), .mv (.t 8), none⟩])
 .ret)) }
def c_walk_Spot : Fun := { cin := [.id, .id], cout := [(.sl 1 .id), .id, .id], ntmps := 13, keep := false, res := [(4, none), (5, none), (6, none)], body :=
 (.seq (.reg [⟨(some 4), .mv (.c .nsl), none⟩,
 ⟨(some 5), .mv (.c (.i .u8 0)), none⟩,
 ⟨(some 6), .mv (.c (.i .i64 0)), none⟩])
 (.seq (.reg [⟨(some 7), .mv (.t 0), none⟩,
 ⟨(some 8), .mv (.t 1), none⟩,
 ⟨(some 9), .call f_walk_walk [(.t 7), (.t 8), (.c (.b false))], none⟩,
 ⟨(some 10), .ext (.t 9) 0, none⟩,
 ⟨(some 11), .ext (.t 9) 1, none⟩,
 ⟨(some 12), .ext (.t 9) 2, none⟩,
 ⟨(some 4), .mv (.t 10), none⟩,
 ⟨(some 5), .mv (.t 11), none⟩,
 ⟨(some 6), .mv (.t 12), none⟩])
 .ret)) }
def c_walk_Find : Fun := { cin := [.id, .id], cout := [(.sl 1 .id), .id, .id], ntmps := 13, keep := false, res := [(4, none), (5, none), (6, none)], body :=
 (.seq (.reg [⟨(some 4), .mv (.c .nsl), none⟩,
 ⟨(some 5), .mv (.c (.i .u8 0)), none⟩,
 ⟨(some 6), .mv (.c (.i .i64 0)), none⟩])
 (.seq (.reg [⟨(some 7), .mv (.t 0), none⟩,
 ⟨(some 8), .mv (.t 1), none⟩,
 ⟨(some 9), .call f_walk_walk [(.t 7), (.t 8), (.c (.b true))], none⟩,
 ⟨(some 10), .ext (.t 9) 0, none⟩,
 ⟨(some 11), .ext (.t 9) 1, none⟩,
 ⟨(some 12), .ext (.t 9) 2, none⟩,
 ⟨(some 4), .mv (.t 10), none⟩,
 ⟨(some 5), .mv (.t 11), none⟩,
 ⟨(some 6), .mv (.t 12), none⟩])
 .ret)) }
def c_path_Check : Fun := { cin := [.id], cout := [.id], ntmps := 25, keep := false, res := [(2, some (false, 1))], body :=
 (.seq (.reg [⟨(some 2), .alloc 30 [(.i .i64 0)], none⟩])
 (.seq (.blk 0 (.seq (.reg [⟨(some 5), .mv (.t 0), none⟩,
 ⟨(some 6), .bin .eql (.t 5) (.c (.s [])), none⟩,
 ⟨(some 7), .mv (.t 6), none⟩,
 ⟨(some 8), .mv (.t 0), (some (7, false))⟩,
 ⟨(some 9), .call f_strings_Contains [(.t 8), (.c (.s [0]))], (some (7, false))⟩,
 ⟨(some 10), .pick (.t 7) (.c (.b true)) (.t 9), none⟩,
 ⟨(some 4), .mv (.t 10), none⟩])
 (.cond (.t 4)
 (.seq (.reg [⟨none, .st 1 (.t 2) (.c (.i .i64 4)), none⟩])
 .ret)
 (.seq (.reg [⟨(some 12), .mv (.t 0), none⟩,
 ⟨(some 13), .len 0 (.t 12), none⟩,
 ⟨(some 14), .bin .gtr (.t 13) (.c (.i .i64 256)), none⟩,
 ⟨(some 11), .mv (.t 14), none⟩])
 (.cond (.t 11)
 (.seq (.reg [⟨none, .st 1 (.t 2) (.c (.i .i64 40)), none⟩])
 .ret)
 .skip)))))
 (.seq (.seq (.reg [⟨(some 15), .mv (.t 0), none⟩,
 ⟨(some 16), .call f_path_steps [(.t 15)], none⟩])
 (.blk 1 (.rf (.t 16) [17] (.reg [⟨(some 3), .mv (.t 17), none⟩])
 (.blk 2 (.seq (.reg [⟨(some 18), .mv (.t 3), none⟩,
 ⟨(some 19), .bin .neq (.t 18) (.c (.s [46, 46])), none⟩,
 ⟨(some 20), .mv (.t 19), none⟩,
 ⟨(some 21), .mv (.t 3), (some (20, true))⟩,
 ⟨(some 22), .call f_path_Name [(.t 21)], (some (20, true))⟩,
 ⟨(some 23), .un .not (.t 22), (some (20, true))⟩,
 ⟨(some 24), .pick (.t 20) (.t 23) (.c (.b false)), none⟩])
 (.cond (.t 24)
 (.seq (.reg [⟨none, .st 1 (.t 2) (.c (.i .i64 4)), none⟩])
 .ret)
 .skip))))))
 (.seq (.reg [⟨none, .st 1 (.t 2) (.c (.i .i64 0)), none⟩])
 .ret)))) }
def c_ftree_Nodes : Fun := { cin := [(.agg [.id, .id, (.sl 1 .id), (.sl 4 (.agg [.id, .id, (.sl 1 .id), (.sl 4 (.agg [.id, .id, (.sl 1 .id), (.sl 4 .id)]))]))])], cout := [.id], ntmps := 19, keep := false, res := [(2, none)], body :=
 (.seq (.reg [⟨(some 1), .box 25 4 (.t 0), none⟩,
 ⟨(some 2), .mv (.c (.i .i64 0)), none⟩])
 (.seq (.reg [⟨(some 3), .mv (.c (.i .i64 1)), none⟩])
 (.seq (.seq (.reg [⟨(some 6), .fa 3 (.t 1), none⟩,
 ⟨(some 7), .ld false 1 (.t 6), none⟩,
 ⟨(some 8), .len 1 (.t 7), none⟩,
 ⟨(some 9), .mv (.c (.i .i64 0)), none⟩])
 (.blk 0 (.loop (.seq (.reg [⟨(some 10), .bin .lss (.t 9) (.t 8), none⟩])
 (.seq (.cond (.t 10)
 .skip
 (.exit 0))
 (.seq (.blk 1 (.seq (.reg [⟨(some 11), .ia 4 (.t 7) (.t 9), none⟩,
 ⟨(some 12), .ld true 4 (.t 11), none⟩,
 ⟨(some 5), .alloc 25 [(.i .u8 0), (.s []), .nsl, .nsl], none⟩,
 ⟨none, .st 4 (.t 5) (.t 12), none⟩])
 (.reg [⟨(some 13), .mv (.t 3), none⟩,
 ⟨(some 14), .ld true 4 (.t 5), none⟩,
 ⟨(some 15), .call f_ftree_Nodes [(.t 14)], none⟩,
 ⟨(some 16), .bin .add (.t 13) (.t 15), none⟩,
 ⟨(some 3), .mv (.t 16), none⟩])))
 (.reg [⟨(some 17), .bin .add (.t 9) (.c (.i .i64 1)), none⟩,
 ⟨(some 9), .mv (.t 17), none⟩])))))))
 (.seq (.reg [⟨(some 18), .mv (.t 3), none⟩,
 ⟨(some 2), .mv (.t 18), none⟩])
 .ret)))) }
def c_ftree_May : Fun := { cin := [(.agg [.id, .id, (.sl 1 .id), (.sl 4 (.agg [.id, .id, (.sl 1 .id), (.sl 4 (.agg [.id, .id, (.sl 1 .id), (.sl 4 .id)]))]))])], cout := [.id], ntmps := 20, keep := false, res := [(2, none)], body :=
 (.seq (.reg [⟨(some 1), .box 25 4 (.t 0), none⟩,
 ⟨(some 2), .mv (.c (.b false)), none⟩])
 (.seq (.reg [⟨(some 3), .fa 0 (.t 1), none⟩,
 ⟨(some 4), .ld false 1 (.t 3), none⟩,
 ⟨(some 5), .bin .eql (.t 4) (.c (.i .u8 2)), none⟩,
 ⟨(some 6), .mv (.t 5), none⟩,
 ⟨(some 7), .ld true 4 (.t 1), (some (6, true))⟩,
 ⟨(some 8), .call f_ftree_Well [(.t 7)], (some (6, true))⟩,
 ⟨(some 9), .pick (.t 6) (.t 8) (.c (.b false)), none⟩,
 ⟨(some 10), .mv (.t 9), none⟩,
 ⟨(some 11), .ld true 4 (.t 1), (some (10, true))⟩,
 ⟨(some 12), .call f_ftree_Nodes [(.t 11)], (some (10, true))⟩,
 ⟨(some 13), .bin .leq (.t 12) (.c (.i .i64 1024)), (some (10, true))⟩,
 ⟨(some 14), .pick (.t 10) (.t 13) (.c (.b false)), none⟩,
 ⟨(some 15), .mv (.t 14), none⟩,
 ⟨(some 16), .ld true 4 (.t 1), (some (15, true))⟩,
 ⟨(some 17), .call f_ftree_depth [(.t 16)], (some (15, true))⟩,
 ⟨(some 18), .bin .leq (.t 17) (.c (.i .i64 24)), (some (15, true))⟩,
 ⟨(some 19), .pick (.t 15) (.t 18) (.c (.b false)), none⟩,
 ⟨(some 2), .mv (.t 19), none⟩])
 .ret)) }
def c_ftree_own : Fun := { cin := [(.agg [.id, .id, (.sl 1 .id), (.sl 4 (.agg [.id, .id, (.sl 1 .id), (.sl 4 (.agg [.id, .id, (.sl 1 .id), (.sl 4 .id)]))]))])], cout := [(.agg [.id, .id, (.sl 1 .id), (.sl 4 (.agg [.id, .id, (.sl 1 .id), (.sl 4 (.agg [.id, .id, (.sl 1 .id), (.sl 4 .id)]))]))])], ntmps := 26, keep := false, res := [(2, some (true, 4))], body :=
 (.seq (.reg [⟨(some 1), .box 25 4 (.t 0), none⟩,
 ⟨(some 2), .alloc 25 [(.i .u8 0), (.s []), .nsl, .nsl], none⟩])
 (.seq (.reg [⟨(some 6), .fa 2 (.t 1), none⟩,
 ⟨(some 7), .ld false 1 (.t 6), none⟩,
 ⟨(some 8), .call f_slices_Clone_string_string [(.t 7)], none⟩,
 ⟨(some 9), .fa 2 (.t 1), none⟩,
 ⟨none, .st 1 (.t 9) (.t 8), none⟩])
 (.seq (.reg [⟨(some 3), .mv (.c .nsl), none⟩])
 (.seq (.seq (.reg [⟨(some 10), .fa 3 (.t 1), none⟩,
 ⟨(some 11), .ld false 1 (.t 10), none⟩,
 ⟨(some 12), .len 1 (.t 11), none⟩,
 ⟨(some 13), .mv (.c (.i .i64 0)), none⟩])
 (.blk 0 (.loop (.seq (.reg [⟨(some 14), .bin .lss (.t 13) (.t 12), none⟩])
 (.seq (.cond (.t 14)
 .skip
 (.exit 0))
 (.seq (.blk 1 (.seq (.reg [⟨(some 15), .ia 4 (.t 11) (.t 13), none⟩,
 ⟨(some 16), .ld true 4 (.t 15), none⟩,
 ⟨(some 5), .alloc 25 [(.i .u8 0), (.s []), .nsl, .nsl], none⟩,
 ⟨none, .st 4 (.t 5) (.t 16), none⟩])
 (.reg [⟨(some 17), .mv (.t 3), none⟩,
 ⟨(some 18), .ld true 4 (.t 5), none⟩,
 ⟨(some 19), .call f_ftree_own [(.t 18)], none⟩,
 ⟨(some 20), .bsl 4 [(.t 19)], none⟩,
 ⟨(some 21), .app 4 25 (.t 17) (.t 20), none⟩,
 ⟨(some 3), .mv (.t 21), none⟩])))
 (.reg [⟨(some 22), .bin .add (.t 13) (.c (.i .i64 1)), none⟩,
 ⟨(some 13), .mv (.t 22), none⟩])))))))
 (.seq (.reg [⟨(some 23), .mv (.t 3), none⟩,
 ⟨(some 24), .fa 3 (.t 1), none⟩,
 ⟨none, .st 1 (.t 24) (.t 23), none⟩])
 (.seq (.reg [⟨(some 25), .ld true 4 (.t 1), none⟩,
 ⟨none, .st 4 (.t 2) (.t 25), none⟩])
 .ret)))))) }
def c_dirs_utilities : Fun := { cin := [], cout := [.id], ntmps := 11, keep := false, res := [(0, none)], body :=
 (.seq (.reg [⟨(some 0), .mv (.c .nm), none⟩])
 (.seq (.reg [⟨(some 1), .mv (.c (.fn f_dirs_utilities_1 [])), none⟩])
 (.seq (.reg [⟨(some 2), .mkm, none⟩,
 ⟨(some 3), .mv (.t 1), none⟩,
 ⟨(some 4), .build [(.s []), .nf, .nf] [(0, 1, (.c (.s [112]))), (1, 1, (.t 3)), (2, 1, (.c (.fn f_dirs_call_mkdir [])))], none⟩,
 ⟨none, .ins 1 (.t 2) (.c (.s [109, 107, 100, 105, 114])) (.t 4), none⟩,
 ⟨(some 5), .mv (.t 1), none⟩,
 ⟨(some 6), .build [(.s []), .nf, .nf] [(0, 1, (.c (.s []))), (1, 1, (.t 5)), (2, 1, (.c (.fn f_dirs_call_rmdir [])))], none⟩,
 ⟨none, .ins 1 (.t 2) (.c (.s [114, 109, 100, 105, 114])) (.t 6), none⟩,
 ⟨(some 7), .mv (.t 1), none⟩,
 ⟨(some 8), .build [(.s []), .nf, .nf] [(0, 1, (.c (.s []))), (1, 1, (.t 7)), (2, 1, (.c (.fn f_dirs_call_touch [])))], none⟩,
 ⟨none, .ins 1 (.t 2) (.c (.s [116, 111, 117, 99, 104])) (.t 8), none⟩,
 ⟨(some 9), .build [(.s []), .nf, .nf] [(0, 1, (.c (.s [102, 114]))), (1, 1, (.c (.fn f_dirs_utilities_2 []))), (2, 1, (.c (.fn f_dirs_call_rm [])))], none⟩,
 ⟨none, .ins 1 (.t 2) (.c (.s [114, 109])) (.t 9), none⟩,
 ⟨(some 10), .mv (.t 2), none⟩,
 ⟨(some 0), .mv (.t 10), none⟩])
 .ret))) }
def c_opts_Parse : Fun := { cin := [.id, (.sl 1 .id), .id, .id], cout := [(.agg [.id, (.sl 1 .id)]), .id], ntmps := 111, keep := false, res := [(8, some (true, 2)), (9, none)], body :=
 (.seq (.reg [⟨(some 8), .alloc 108 [(.s []), .nsl], none⟩,
 ⟨(some 9), .mv (.c (.i .i64 0)), none⟩])
 (.seq (.reg [⟨(some 18), .mv (.t 2), none⟩,
 ⟨(some 19), .bin .lss (.t 18) (.c (.i .i64 0)), none⟩,
 ⟨(some 20), .mv (.t 19), none⟩,
 ⟨(some 21), .mv (.t 3), (some (20, false))⟩,
 ⟨(some 22), .mv (.t 2), (some (20, false))⟩,
 ⟨(some 23), .bin .lss (.t 21) (.t 22), (some (20, false))⟩,
 ⟨(some 24), .pick (.t 20) (.c (.b true)) (.t 23), none⟩,
 ⟨(some 10), .mv (.t 24), none⟩])
 (.seq (.seq (.reg [⟨(some 25), .mv (.t 0), none⟩,
 ⟨(some 26), .len 0 (.t 25), none⟩,
 ⟨(some 27), .mv (.c (.i .i64 0)), none⟩])
 (.blk 0 (.loop (.seq (.reg [⟨(some 28), .bin .lss (.t 27) (.t 26), none⟩])
 (.seq (.cond (.t 28)
 .skip
 (.exit 0))
 (.seq (.blk 1 (.seq (.reg [⟨(some 29), .mv (.t 27), none⟩,
 ⟨(some 11), .mv (.t 29), none⟩])
 (.reg [⟨(some 30), .mv (.t 10), none⟩,
 ⟨(some 31), .mv (.t 30), none⟩,
 ⟨(some 32), .mv (.t 0), (some (31, false))⟩,
 ⟨(some 33), .mv (.t 11), (some (31, false))⟩,
 ⟨(some 34), .ixS (.t 32) (.t 33), (some (31, false))⟩,
 ⟨(some 35), .call f_opts_letter [(.t 34)], (some (31, false))⟩,
 ⟨(some 36), .un .not (.t 35), (some (31, false))⟩,
 ⟨(some 37), .pick (.t 31) (.c (.b true)) (.t 36), none⟩,
 ⟨(some 10), .mv (.t 37), none⟩])))
 (.reg [⟨(some 38), .bin .add (.t 27) (.c (.i .i64 1)), none⟩,
 ⟨(some 27), .mv (.t 38), none⟩])))))))
 (.seq (.seq (.reg [⟨(some 39), .mv (.t 10), none⟩])
 (.cond (.t 39)
 (.seq (.reg [⟨(some 40), .build [(.s []), .nsl] [], none⟩,
 ⟨none, .st 2 (.t 8) (.t 40), none⟩,
 ⟨(some 9), .mv (.c (.i .i64 1)), none⟩])
 .ret)
 .skip))
 (.seq (.reg [⟨(some 12), .alloc 177 [(.b false), (.b false), (.b false), (.b false), (.b false), (.b false), (.b false), (.b false), (.b false), (.b false), (.b false), (.b false), (.b false), (.b false), (.b false), (.b false), (.b false), (.b false), (.b false), (.b false), (.b false), (.b false), (.b false), (.b false), (.b false), (.b false), (.b false), (.b false), (.b false), (.b false), (.b false), (.b false), (.b false), (.b false), (.b false), (.b false), (.b false), (.b false), (.b false), (.b false), (.b false), (.b false), (.b false), (.b false), (.b false), (.b false), (.b false), (.b false), (.b false), (.b false), (.b false), (.b false), (.b false), (.b false), (.b false), (.b false), (.b false), (.b false), (.b false), (.b false), (.b false), (.b false), (.b false), (.b false), (.b false), (.b false), (.b false), (.b false), (.b false), (.b false), (.b false), (.b false), (.b false), (.b false), (.b false), (.b false), (.b false), (.b false), (.b false), (.b false), (.b false), (.b false), (.b false), (.b false), (.b false), (.b false), (.b false), (.b false), (.b false), (.b false), (.b false), (.b false), (.b false), (.b false), (.b false), (.b false), (.b false), (.b false), (.b false), (.b false), (.b false), (.b false), (.b false), (.b false), (.b false), (.b false), (.b false), (.b false), (.b false), (.b false), (.b false), (.b false), (.b false), (.b false), (.b false), (.b false), (.b false), (.b false), (.b false), (.b false), (.b false), (.b false), (.b false), (.b false), (.b false), (.b false), (.b false), (.b false), (.b false), (.b false), (.b false), (.b false), (.b false), (.b false), (.b false), (.b false), (.b false), (.b false), (.b false), (.b false), (.b false), (.b false), (.b false), (.b false), (.b false), (.b false), (.b false), (.b false), (.b false), (.b false), (.b false), (.b false), (.b false), (.b false), (.b false), (.b false), (.b false), (.b false), (.b false), (.b false), (.b false), (.b false), (.b false), (.b false), (.b false), (.b false), (.b false), (.b false), (.b false), (.b false), (.b false), (.b false), (.b false), (.b false), (.b false), (.b false), (.b false), (.b false), (.b false), (.b false), (.b false), (.b false), (.b false), (.b false), (.b false), (.b false), (.b false), (.b false), (.b false), (.b false), (.b false), (.b false), (.b false), (.b false), (.b false), (.b false), (.b false), (.b false), (.b false), (.b false), (.b false), (.b false), (.b false), (.b false), (.b false), (.b false), (.b false), (.b false), (.b false), (.b false), (.b false), (.b false), (.b false), (.b false), (.b false), (.b false), (.b false), (.b false), (.b false), (.b false), (.b false), (.b false), (.b false), (.b false), (.b false), (.b false), (.b false), (.b false), (.b false), (.b false), (.b false), (.b false), (.b false), (.b false), (.b false), (.b false), (.b false), (.b false), (.b false), (.b false), (.b false), (.b false), (.b false), (.b false), (.b false), (.b false), (.b false), (.b false), (.b false), (.b false), (.b false), (.b false), (.b false), (.b false), (.b false), (.b false)], none⟩])
 (.seq (.blk 2 (.loop (.seq (.seq (.reg [⟨(some 41), .mv (.t 1), none⟩,
 ⟨(some 42), .len 1 (.t 41), none⟩,
 ⟨(some 43), .bin .gtr (.t 42) (.c (.i .i64 0)), none⟩,
 ⟨(some 44), .mv (.t 43), none⟩,
 ⟨(some 45), .mv (.t 1), (some (44, true))⟩,
 ⟨(some 46), .ia 1 (.t 45) (.c (.i .i64 0)), (some (44, true))⟩,
 ⟨(some 47), .ld false 1 (.t 46), (some (44, true))⟩,
 ⟨(some 48), .len 0 (.t 47), (some (44, true))⟩,
 ⟨(some 49), .bin .gtr (.t 48) (.c (.i .i64 1)), (some (44, true))⟩,
 ⟨(some 50), .pick (.t 44) (.t 49) (.c (.b false)), none⟩,
 ⟨(some 51), .mv (.t 50), none⟩,
 ⟨(some 52), .mv (.t 1), (some (51, true))⟩,
 ⟨(some 53), .ia 1 (.t 52) (.c (.i .i64 0)), (some (51, true))⟩,
 ⟨(some 54), .ld false 1 (.t 53), (some (51, true))⟩,
 ⟨(some 55), .ixS (.t 54) (.c (.i .i64 0)), (some (51, true))⟩,
 ⟨(some 56), .bin .eql (.t 55) (.c (.i .u8 45)), (some (51, true))⟩,
 ⟨(some 57), .pick (.t 51) (.t 56) (.c (.b false)), none⟩])
 (.cond (.t 57)
 .skip
 (.exit 2)))
 (.blk 3 (.seq (.reg [⟨(some 58), .mv (.t 1), none⟩,
 ⟨(some 59), .ia 1 (.t 58) (.c (.i .i64 0)), none⟩,
 ⟨(some 60), .ld false 1 (.t 59), none⟩,
 ⟨(some 61), .slS (.t 60) (some (.c (.i .i64 1))) none, none⟩,
 ⟨(some 13), .mv (.t 61), none⟩])
 (.seq (.reg [⟨(some 62), .mv (.t 1), none⟩,
 ⟨(some 63), .slc false 1 (.t 62) (some (.c (.i .i64 1))) none none, none⟩,
 ⟨(some 1), .mv (.t 63), none⟩])
 (.seq (.seq (.reg [⟨(some 64), .mv (.t 13), none⟩,
 ⟨(some 65), .bin .eql (.t 64) (.c (.s [45])), none⟩])
 (.cond (.t 65)
 (.exit 2)
 .skip))
 (.seq (.reg [⟨(some 66), .mv (.t 13), none⟩,
 ⟨(some 67), .len 0 (.t 66), none⟩,
 ⟨(some 68), .mv (.c (.i .i64 0)), none⟩])
 (.blk 4 (.loop (.seq (.reg [⟨(some 69), .bin .lss (.t 68) (.t 67), none⟩])
 (.seq (.cond (.t 69)
 .skip
 (.exit 4))
 (.seq (.blk 5 (.seq (.reg [⟨(some 70), .mv (.t 68), none⟩,
 ⟨(some 14), .mv (.t 70), none⟩])
 (.seq (.seq (.reg [⟨(some 71), .mv (.t 0), none⟩,
 ⟨(some 72), .mv (.t 13), none⟩,
 ⟨(some 73), .mv (.t 14), none⟩,
 ⟨(some 74), .ixS (.t 72) (.t 73), none⟩,
 ⟨(some 75), .call f_strings_IndexByte [(.t 71), (.t 74)], none⟩,
 ⟨(some 76), .bin .lss (.t 75) (.c (.i .i64 0)), none⟩])
 (.cond (.t 76)
 (.seq (.reg [⟨(some 77), .build [(.s []), .nsl] [], none⟩,
 ⟨none, .st 2 (.t 8) (.t 77), none⟩,
 ⟨(some 9), .mv (.c (.i .i64 62)), none⟩])
 .ret)
 .skip))
 (.reg [⟨(some 78), .mv (.t 13), none⟩,
 ⟨(some 79), .mv (.t 14), none⟩,
 ⟨(some 80), .ixS (.t 78) (.t 79), none⟩,
 ⟨(some 81), .iaA 256 1 (.t 12) (.t 80), none⟩,
 ⟨none, .st 1 (.t 81) (.c (.b true)), none⟩]))))
 (.reg [⟨(some 82), .bin .add (.t 68) (.c (.i .i64 1)), none⟩,
 ⟨(some 68), .mv (.t 82), none⟩]))))))))))))))
 (.seq (.seq (.reg [⟨(some 83), .mv (.t 1), none⟩,
 ⟨(some 84), .len 1 (.t 83), none⟩,
 ⟨(some 85), .mv (.t 2), none⟩,
 ⟨(some 86), .bin .lss (.t 84) (.t 85), none⟩,
 ⟨(some 87), .mv (.t 86), none⟩,
 ⟨(some 88), .mv (.t 1), (some (87, false))⟩,
 ⟨(some 89), .len 1 (.t 88), (some (87, false))⟩,
 ⟨(some 90), .mv (.t 3), (some (87, false))⟩,
 ⟨(some 91), .bin .gtr (.t 89) (.t 90), (some (87, false))⟩,
 ⟨(some 92), .pick (.t 87) (.c (.b true)) (.t 91), none⟩])
 (.cond (.t 92)
 (.seq (.reg [⟨(some 93), .build [(.s []), .nsl] [], none⟩,
 ⟨none, .st 2 (.t 8) (.t 93), none⟩,
 ⟨(some 9), .mv (.c (.i .i64 62)), none⟩])
 .ret)
 .skip))
 (.seq (.reg [⟨(some 15), .mv (.c .nsl), none⟩])
 (.seq (.seq (.reg [⟨(some 94), .ld true 256 (.t 12), none⟩,
 ⟨(some 95), .mv (.c (.i .i64 0)), none⟩])
 (.blk 6 (.loop (.seq (.reg [⟨(some 96), .bin .lss (.t 95) (.c (.i .i64 256)), none⟩])
 (.seq (.cond (.t 96)
 .skip
 (.exit 6))
 (.seq (.blk 7 (.seq (.reg [⟨(some 97), .mv (.t 95), none⟩,
 ⟨(some 98), .ixA 256 1 false (.t 94) (.t 95), none⟩,
 ⟨(some 16), .mv (.t 97), none⟩,
 ⟨(some 17), .mv (.t 98), none⟩])
 (.seq (.reg [⟨(some 99), .mv (.t 17), none⟩])
 (.cond (.t 99)
 (.reg [⟨(some 100), .mv (.t 15), none⟩,
 ⟨(some 101), .mv (.t 16), none⟩,
 ⟨(some 102), .cvI .u8 (.t 101), none⟩,
 ⟨(some 103), .bsl 1 [(.t 102)], none⟩,
 ⟨(some 104), .app 1 5 (.t 100) (.t 103), none⟩,
 ⟨(some 15), .mv (.t 104), none⟩])
 .skip))))
 (.reg [⟨(some 105), .bin .add (.t 95) (.c (.i .i64 1)), none⟩,
 ⟨(some 95), .mv (.t 105), none⟩])))))))
 (.seq (.regD [⟨(some 106), .mv (.t 15), none⟩,
 ⟨(some 107), .cvBS (.t 106), none⟩,
 ⟨(some 108), .mv (.t 1), none⟩,
 ⟨(some 109), .callQ false f_slices_Clone_string_string [(.t 108)], none⟩,
 ⟨(some 110), .build [(.s []), .nsl] [(0, 1, (.t 107)), (1, 1, (.t 109))], none⟩,
 ⟨none, .st 2 (.t 8) (.t 110), none⟩,
 ⟨(some 9), .mv (.c (.i .i64 0)), none⟩] [(1, (1, 4))])
 .ret)))))))))) }
def c_strings_IndexByte : Fun := { cin := [.id, .id], cout := [.id], ntmps := 8, keep := false, res := [(4, none)], body :=
 (.seq (.reg [⟨(some 4), .mv (.c (.i .i64 0)), none⟩])
 (.seq (.reg [⟨(some 5), .mv (.t 0), none⟩,
 ⟨(some 6), .mv (.t 1), none⟩,
 ⟨(some 7), .call f_internal_stringslite_IndexByte [(.t 5), (.t 6)], none⟩,
 ⟨(some 4), .mv (.t 7), none⟩])
 .ret)) }
def c_path_Name : Fun := { cin := [.id], cout := [.id], ntmps := 23, keep := false, res := [(2, none)], body :=
 (.seq (.reg [⟨(some 2), .mv (.c (.b false)), none⟩])
 (.seq (.reg [⟨(some 3), .mv (.t 0), none⟩,
 ⟨(some 4), .bin .neq (.t 3) (.c (.s [])), none⟩,
 ⟨(some 5), .mv (.t 4), none⟩,
 ⟨(some 6), .mv (.t 0), (some (5, true))⟩,
 ⟨(some 7), .len 0 (.t 6), (some (5, true))⟩,
 ⟨(some 8), .bin .leq (.t 7) (.c (.i .i64 64)), (some (5, true))⟩,
 ⟨(some 9), .pick (.t 5) (.t 8) (.c (.b false)), none⟩,
 ⟨(some 10), .mv (.t 9), none⟩,
 ⟨(some 11), .mv (.t 0), (some (10, true))⟩,
 ⟨(some 12), .bin .neq (.t 11) (.c (.s [46])), (some (10, true))⟩,
 ⟨(some 13), .pick (.t 10) (.t 12) (.c (.b false)), none⟩,
 ⟨(some 14), .mv (.t 13), none⟩,
 ⟨(some 15), .mv (.t 0), (some (14, true))⟩,
 ⟨(some 16), .bin .neq (.t 15) (.c (.s [46, 46])), (some (14, true))⟩,
 ⟨(some 17), .pick (.t 14) (.t 16) (.c (.b false)), none⟩,
 ⟨(some 18), .mv (.t 17), none⟩,
 ⟨(some 19), .mv (.t 0), (some (18, true))⟩,
 ⟨(some 20), .call f_strings_ContainsAny [(.t 19), (.c (.s [47, 0, 10]))], (some (18, true))⟩,
 ⟨(some 21), .un .not (.t 20), (some (18, true))⟩,
 ⟨(some 22), .pick (.t 18) (.t 21) (.c (.b false)), none⟩,
 ⟨(some 2), .mv (.t 22), none⟩])
 .ret)) }
def c_ftree_Tree_at : Fun := { cin := [.id, (.sl 1 .id)], cout := [(.agg [.id, .id, (.sl 1 .id), (.sl 4 (.agg [.id, .id, (.sl 1 .id), (.sl 4 (.agg [.id, .id, (.sl 1 .id), (.sl 4 .id)]))]))])], ntmps := 20, keep := false, res := [(4, some (true, 4))], body :=
 (.seq (.reg [⟨(some 4), .alloc 25 [(.i .u8 0), (.s []), .nsl, .nsl], none⟩])
 (.seq (.seq (.reg [⟨(some 7), .mv (.t 0), none⟩,
 ⟨(some 8), .eq .ptr false (.t 7) (.c .np), none⟩])
 (.cond (.t 8)
 (.seq (.reg [⟨(some 9), .build [(.i .u8 0), (.s []), .nsl, .nsl] [], none⟩,
 ⟨none, .st 4 (.t 4) (.t 9), none⟩])
 .ret)
 .skip))
 (.seq (.reg [⟨(some 11), .mv (.t 0), none⟩,
 ⟨(some 12), .nck (.t 11), none⟩,
 ⟨(some 13), .fa 0 (.t 12), none⟩,
 ⟨(some 14), .ld true 4 (.t 13), none⟩,
 ⟨(some 15), .mv (.t 1), none⟩,
 ⟨(some 16), .call f_ftree_find [(.t 14), (.t 15)], none⟩,
 ⟨(some 10), .mv (.t 16), none⟩,
 ⟨(some 17), .ext (.t 10) 0, none⟩,
 ⟨(some 18), .ext (.t 10) 1, none⟩,
 ⟨(some 5), .alloc 25 [(.i .u8 0), (.s []), .nsl, .nsl], none⟩,
 ⟨none, .st 4 (.t 5) (.t 17), none⟩,
 ⟨(some 6), .mv (.t 18), none⟩])
 (.seq (.reg [⟨(some 19), .ld true 4 (.t 5), none⟩,
 ⟨none, .st 4 (.t 4) (.t 19), none⟩])
 .ret)))) }
def c_walk_walk : Fun := { cin := [.id, .id, .id], cout := [(.sl 1 .id), .id, .id], ntmps := 34, keep := false, res := [(6, none), (7, none), (8, none)], body :=
 (.seq (.reg [⟨(some 6), .mv (.c .nsl), none⟩,
 ⟨(some 7), .mv (.c (.i .u8 0)), none⟩,
 ⟨(some 8), .mv (.c (.i .i64 0)), none⟩])
 (.seq (.seq (.reg [⟨(some 13), .mv (.t 0), none⟩,
 ⟨(some 14), .eq .ifc false (.t 13) (.c .ni), none⟩])
 (.cond (.t 14)
 (.seq (.reg [⟨(some 6), .mv (.c .nsl), none⟩,
 ⟨(some 7), .mv (.c (.i .u8 0)), none⟩,
 ⟨(some 8), .mv (.c (.i .i64 2)), none⟩])
 .ret)
 .skip))
 (.seq (.reg [⟨(some 15), .mv (.t 0), none⟩,
 ⟨(some 16), .mv (.t 1), none⟩,
 ⟨(some 17), .call f_path_Steps [(.t 16)], none⟩,
 ⟨(some 18), .mv (.t 1), none⟩,
 ⟨(some 19), .call f_path_Dir [(.t 18)], none⟩,
 ⟨(some 20), .mv (.t 2), none⟩,
 ⟨(some 21), .build [.ni, .nsl, .nsl, (.b false), (.b false), (.i .i64 0)] [(0, 1, (.t 15)), (2, 1, (.t 17)), (3, 1, (.t 19)), (4, 1, (.t 20))], none⟩,
 ⟨(some 22), .box 181 6 (.t 21), none⟩,
 ⟨(some 9), .mv (.t 22), none⟩])
 (.seq (.reg [⟨(some 24), .mv (.t 9), none⟩,
 ⟨(some 25), .call f_walk_walker_run [(.t 24)], none⟩,
 ⟨(some 23), .mv (.t 25), none⟩,
 ⟨(some 26), .ext (.t 23) 0, none⟩,
 ⟨(some 27), .ext (.t 23) 1, none⟩,
 ⟨(some 28), .ext (.t 23) 2, none⟩,
 ⟨(some 10), .mv (.t 26), none⟩,
 ⟨(some 11), .mv (.t 27), none⟩,
 ⟨(some 12), .mv (.t 28), none⟩])
 (.seq (.reg [⟨(some 29), .bsl 1 [], none⟩,
 ⟨(some 30), .mv (.t 10), none⟩,
 ⟨(some 31), .app 1 9 (.t 29) (.t 30), none⟩,
 ⟨(some 32), .mv (.t 11), none⟩,
 ⟨(some 33), .mv (.t 12), none⟩,
 ⟨(some 6), .mv (.t 31), none⟩,
 ⟨(some 7), .mv (.t 32), none⟩,
 ⟨(some 8), .mv (.t 33), none⟩])
 .ret))))) }
def c_strings_Contains : Fun := { cin := [.id, .id], cout := [.id], ntmps := 9, keep := false, res := [(4, none)], body :=
 (.seq (.reg [⟨(some 4), .mv (.c (.b false)), none⟩])
 (.seq (.reg [⟨(some 5), .mv (.t 0), none⟩,
 ⟨(some 6), .mv (.t 1), none⟩,
 ⟨(some 7), .call f_strings_Index [(.t 5), (.t 6)], none⟩,
 ⟨(some 8), .bin .geq (.t 7) (.c (.i .i64 0)), none⟩,
 ⟨(some 4), .mv (.t 8), none⟩])
 .ret)) }
def c_path_steps : Fun := { cin := [.id], cout := [.id], ntmps := 4, keep := false, res := [(2, none)], body :=
 (.seq (.reg [⟨(some 1), .box 9 1 (.t 0), none⟩,
 ⟨(some 2), .mv (.c .nf), none⟩])
 (.seq (.reg [⟨(some 3), .mkf f_path_steps_1 [(.t 1)], none⟩,
 ⟨(some 2), .mv (.t 3), none⟩])
 .ret)) }
def c_opts_Opts_Has : Fun := { cin := [(.agg [.id, (.sl 1 .id)]), .id], cout := [.id], ntmps := 10, keep := false, res := [(4, none)], body :=
 (.seq (.reg [⟨(some 2), .box 108 2 (.t 0), none⟩,
 ⟨(some 4), .mv (.c (.b false)), none⟩])
 (.seq (.reg [⟨(some 5), .fa 0 (.t 2), none⟩,
 ⟨(some 6), .ld false 1 (.t 5), none⟩,
 ⟨(some 7), .mv (.t 1), none⟩,
 ⟨(some 8), .call f_strings_IndexByte [(.t 6), (.t 7)], none⟩,
 ⟨(some 9), .bin .geq (.t 8) (.c (.i .i64 0)), none⟩,
 ⟨(some 4), .mv (.t 9), none⟩])
 .ret)) }
def c_ftree_find : Fun := { cin := [(.agg [.id, .id, (.sl 1 .id), (.sl 4 (.agg [.id, .id, (.sl 1 .id), (.sl 4 (.agg [.id, .id, (.sl 1 .id), (.sl 4 .id)]))]))]), (.sl 1 .id)], cout := [(.agg [.id, .id, (.sl 1 .id), (.sl 4 (.agg [.id, .id, (.sl 1 .id), (.sl 4 (.agg [.id, .id, (.sl 1 .id), (.sl 4 .id)]))]))]), .id], ntmps := 38, keep := false, res := [(4, some (true, 4)), (5, none)], body :=
 (.seq (.reg [⟨(some 2), .box 25 4 (.t 0), none⟩,
 ⟨(some 4), .alloc 25 [(.i .u8 0), (.s []), .nsl, .nsl], none⟩,
 ⟨(some 5), .mv (.c (.b false)), none⟩])
 (.seq (.seq (.reg [⟨(some 10), .mv (.t 1), none⟩,
 ⟨(some 11), .len 1 (.t 10), none⟩,
 ⟨(some 12), .mv (.c (.i .i64 0)), none⟩])
 (.blk 0 (.loop (.seq (.reg [⟨(some 13), .bin .lss (.t 12) (.t 11), none⟩])
 (.seq (.cond (.t 13)
 .skip
 (.exit 0))
 (.seq (.blk 1 (.seq (.reg [⟨(some 14), .ia 1 (.t 10) (.t 12), none⟩,
 ⟨(some 15), .ld false 1 (.t 14), none⟩,
 ⟨(some 7), .mv (.t 15), none⟩])
 (.seq (.reg [⟨(some 17), .fa 2 (.t 2), none⟩,
 ⟨(some 18), .ld false 1 (.t 17), none⟩,
 ⟨(some 19), .mv (.t 7), none⟩,
 ⟨(some 20), .call f_slices_BinarySearch_string_string [(.t 18), (.t 19)], none⟩,
 ⟨(some 16), .mv (.t 20), none⟩,
 ⟨(some 21), .ext (.t 16) 0, none⟩,
 ⟨(some 22), .ext (.t 16) 1, none⟩,
 ⟨(some 8), .mv (.t 21), none⟩,
 ⟨(some 9), .mv (.t 22), none⟩])
 (.seq (.seq (.reg [⟨(some 23), .fa 0 (.t 2), none⟩,
 ⟨(some 24), .ld false 1 (.t 23), none⟩,
 ⟨(some 25), .bin .neq (.t 24) (.c (.i .u8 2)), none⟩,
 ⟨(some 26), .mv (.t 25), none⟩,
 ⟨(some 27), .mv (.t 9), (some (26, false))⟩,
 ⟨(some 28), .un .not (.t 27), (some (26, false))⟩,
 ⟨(some 29), .pick (.t 26) (.c (.b true)) (.t 28), none⟩])
 (.cond (.t 29)
 (.seq (.reg [⟨(some 30), .build [(.i .u8 0), (.s []), .nsl, .nsl] [], none⟩,
 ⟨none, .st 4 (.t 4) (.t 30), none⟩,
 ⟨(some 5), .mv (.c (.b false)), none⟩])
 .ret)
 .skip))
 (.reg [⟨(some 31), .fa 3 (.t 2), none⟩,
 ⟨(some 32), .ld false 1 (.t 31), none⟩,
 ⟨(some 33), .mv (.t 8), none⟩,
 ⟨(some 34), .ia 4 (.t 32) (.t 33), none⟩,
 ⟨(some 35), .ld true 4 (.t 34), none⟩,
 ⟨none, .st 4 (.t 2) (.t 35), none⟩])))))
 (.reg [⟨(some 36), .bin .add (.t 12) (.c (.i .i64 1)), none⟩,
 ⟨(some 12), .mv (.t 36), none⟩])))))))
 (.seq (.reg [⟨(some 37), .ld true 4 (.t 2), none⟩,
 ⟨none, .st 4 (.t 4) (.t 37), none⟩,
 ⟨(some 5), .mv (.c (.b true)), none⟩])
 .ret))) }
def c_pat_May : Fun := { cin := [(.sl 6 (.agg [.id, .id, (.sl 1 .id), (.sl 1 .id), .id, .id]))], cout := [.id], ntmps := 59, keep := false, res := [(2, none)], body :=
 (.seq (.reg [⟨(some 2), .mv (.c (.b false)), none⟩])
 (.seq (.seq (.reg [⟨(some 8), .mv (.t 0), none⟩,
 ⟨(some 9), .len 1 (.t 8), none⟩,
 ⟨(some 10), .bin .eql (.t 9) (.c (.i .i64 0)), none⟩,
 ⟨(some 11), .mv (.t 10), none⟩,
 ⟨(some 12), .mv (.t 0), (some (11, false))⟩,
 ⟨(some 13), .ia 6 (.t 12) (.c (.i .i64 0)), (some (11, false))⟩,
 ⟨(some 14), .ld true 6 (.t 13), (some (11, false))⟩,
 ⟨(some 15), .call f_pat_dir [(.t 14)], (some (11, false))⟩,
 ⟨(some 16), .un .not (.t 15), (some (11, false))⟩,
 ⟨(some 17), .pick (.t 11) (.c (.b true)) (.t 16), none⟩])
 (.cond (.t 17)
 (.seq (.reg [⟨(some 2), .mv (.c (.b false)), none⟩])
 .ret)
 .skip))
 (.seq (.reg [⟨(some 18), .mv (.t 0), none⟩,
 ⟨(some 19), .len 1 (.t 18), none⟩,
 ⟨(some 20), .mks 3 1 [(.i .i64 0)] (.t 19) (.t 19), none⟩,
 ⟨(some 3), .mv (.t 20), none⟩])
 (.seq (.seq (.reg [⟨(some 21), .mv (.t 0), none⟩,
 ⟨(some 22), .len 1 (.t 21), none⟩,
 ⟨(some 23), .mv (.c (.i .i64 0)), none⟩])
 (.blk 0 (.loop (.seq (.reg [⟨(some 24), .bin .lss (.t 23) (.t 22), none⟩])
 (.seq (.cond (.t 24)
 .skip
 (.exit 0))
 (.seq (.blk 1 (.seq (.reg [⟨(some 25), .mv (.t 23), none⟩,
 ⟨(some 26), .ia 6 (.t 21) (.t 23), none⟩,
 ⟨(some 27), .ld true 6 (.t 26), none⟩,
 ⟨(some 5), .alloc 84 [(.b false), (.i .u8 0), .nsl, .nsl, (.i .i64 0), (.i .i64 0)], none⟩,
 ⟨(some 4), .mv (.t 25), none⟩,
 ⟨none, .st 6 (.t 5) (.t 27), none⟩])
 (.seq (.seq (.reg [⟨(some 28), .ld true 6 (.t 5), none⟩,
 ⟨(some 29), .call f_pat_one [(.t 28)], none⟩,
 ⟨(some 30), .un .not (.t 29), none⟩])
 (.cond (.t 30)
 (.seq (.reg [⟨(some 2), .mv (.c (.b false)), none⟩])
 .ret)
 .skip))
 (.seq (.reg [⟨(some 31), .fa 3 (.t 5), none⟩,
 ⟨(some 32), .ld false 1 (.t 31), none⟩,
 ⟨(some 33), .len 1 (.t 32), none⟩,
 ⟨(some 34), .mv (.c (.i .i64 0)), none⟩])
 (.blk 2 (.loop (.seq (.reg [⟨(some 35), .bin .lss (.t 34) (.t 33), none⟩])
 (.seq (.cond (.t 35)
 .skip
 (.exit 2))
 (.seq (.blk 3 (.seq (.reg [⟨(some 36), .ia 1 (.t 32) (.t 34), none⟩,
 ⟨(some 37), .ld false 1 (.t 36), none⟩,
 ⟨(some 7), .mv (.t 37), none⟩])
 (.seq (.seq (.reg [⟨(some 38), .mv (.t 7), none⟩,
 ⟨(some 39), .mv (.t 4), none⟩,
 ⟨(some 40), .bin .leq (.t 38) (.t 39), none⟩,
 ⟨(some 41), .mv (.t 40), none⟩,
 ⟨(some 42), .mv (.t 7), (some (41, false))⟩,
 ⟨(some 43), .mv (.t 0), (some (41, false))⟩,
 ⟨(some 44), .len 1 (.t 43), (some (41, false))⟩,
 ⟨(some 45), .bin .geq (.t 42) (.t 44), (some (41, false))⟩,
 ⟨(some 46), .pick (.t 41) (.c (.b true)) (.t 45), none⟩])
 (.cond (.t 46)
 (.seq (.reg [⟨(some 2), .mv (.c (.b false)), none⟩])
 .ret)
 .skip))
 (.seq (.thw 3)
 (.reg [⟨(some 47), .mv (.t 3), none⟩,
 ⟨(some 48), .mv (.t 7), none⟩,
 ⟨(some 49), .ia 1 (.t 47) (.t 48), none⟩,
 ⟨(some 50), .ld false 1 (.t 49), none⟩,
 ⟨(some 51), .bin .add (.t 50) (.c (.i .i64 1)), none⟩,
 ⟨(some 52), .ia 1 (.t 47) (.t 48), none⟩,
 ⟨none, .st 1 (.t 52) (.t 51), none⟩])))))
 (.reg [⟨(some 53), .bin .add (.t 34) (.c (.i .i64 1)), none⟩,
 ⟨(some 34), .mv (.t 53), none⟩]))))))))))
 (.reg [⟨(some 54), .bin .add (.t 23) (.c (.i .i64 1)), none⟩,
 ⟨(some 23), .mv (.t 54), none⟩])))))))
 (.seq (.reg [⟨(some 55), .mv (.t 3), none⟩,
 ⟨(some 56), .slc false 1 (.t 55) (some (.c (.i .i64 1))) none none, none⟩,
 ⟨(some 57), .call f_slices_ContainsFunc_int_int [(.t 56), (.c (.fn f_pat_May_1 []))], none⟩,
 ⟨(some 58), .un .not (.t 57), none⟩,
 ⟨(some 2), .mv (.t 58), none⟩])
 .ret))))) }
def c_slices_Clone_string_string : Fun := { cin := [(.sl 1 .id)], cout := [], ntmps := 8, keep := true, res := [(2, none)], body :=
 (.seq (.reg [⟨(some 2), .mv (.c .nsl), none⟩])
 (.seq (.seq (.reg [⟨(some 3), .mv (.t 0), none⟩,
 ⟨(some 4), .eq .sl false (.t 3) (.c .nsl), none⟩])
 (.cond (.t 4)
 (.seq (.reg [⟨(some 2), .mv (.c .nsl), none⟩])
 .ret)
 .skip))
 (.seq (.reg [⟨(some 5), .bsl 1 [], none⟩,
 ⟨(some 6), .mv (.t 0), none⟩,
 ⟨(some 7), .app 1 9 (.t 5) (.t 6), none⟩,
 ⟨(some 2), .mv (.t 7), none⟩])
 .ret))) }
def c_ftree_depth : Fun := { cin := [(.agg [.id, .id, (.sl 1 .id), (.sl 4 (.agg [.id, .id, (.sl 1 .id), (.sl 4 (.agg [.id, .id, (.sl 1 .id), (.sl 4 .id)]))]))])], cout := [.id], ntmps := 20, keep := false, res := [(2, none)], body :=
 (.seq (.reg [⟨(some 1), .box 25 4 (.t 0), none⟩,
 ⟨(some 2), .mv (.c (.i .i64 0)), none⟩])
 (.seq (.reg [⟨(some 3), .mv (.c (.i .i64 0)), none⟩])
 (.seq (.seq (.reg [⟨(some 6), .fa 3 (.t 1), none⟩,
 ⟨(some 7), .ld false 1 (.t 6), none⟩,
 ⟨(some 8), .len 1 (.t 7), none⟩,
 ⟨(some 9), .mv (.c (.i .i64 0)), none⟩])
 (.blk 0 (.loop (.seq (.reg [⟨(some 10), .bin .lss (.t 9) (.t 8), none⟩])
 (.seq (.cond (.t 10)
 .skip
 (.exit 0))
 (.seq (.blk 1 (.seq (.reg [⟨(some 11), .ia 4 (.t 7) (.t 9), none⟩,
 ⟨(some 12), .ld true 4 (.t 11), none⟩,
 ⟨(some 5), .alloc 25 [(.i .u8 0), (.s []), .nsl, .nsl], none⟩,
 ⟨none, .st 4 (.t 5) (.t 12), none⟩])
 (.reg [⟨(some 13), .mv (.t 3), none⟩,
 ⟨(some 14), .ld true 4 (.t 5), none⟩,
 ⟨(some 15), .call f_ftree_depth [(.t 14)], none⟩,
 ⟨(some 16), .bin .add (.c (.i .i64 1)) (.t 15), none⟩,
 ⟨(some 17), .mm true (.t 13) (.t 16), none⟩,
 ⟨(some 3), .mv (.t 17), none⟩])))
 (.reg [⟨(some 18), .bin .add (.t 9) (.c (.i .i64 1)), none⟩,
 ⟨(some 9), .mv (.t 18), none⟩])))))))
 (.seq (.reg [⟨(some 19), .mv (.t 3), none⟩,
 ⟨(some 2), .mv (.t 19), none⟩])
 .ret)))) }
def c_dirs_utilities_1 : Fun := { cin := [(.agg [.id, .id, (.sl 1 .id)])], cout := [.id], ntmps := 3, keep := false, res := [(2, none)], body :=
 (.seq (.reg [⟨(some 1), .box 112 3 (.t 0), none⟩,
 ⟨(some 2), .mv (.c (.b false)), none⟩])
 (.seq (.reg [⟨(some 2), .mv (.c (.b false)), none⟩])
 .ret)) }
def c_dirs_call_mkdir : Fun := { cin := [(.agg [.id, .id, (.sl 1 .id)]), .id], cout := [.id], ntmps := 55, keep := false, res := [(4, none)], body :=
 (.seq (.reg [⟨(some 2), .box 112 3 (.t 0), none⟩,
 ⟨(some 4), .mv (.c (.i .i64 0)), none⟩])
 (.seq (.seq (.reg [⟨(some 12), .fa 1 (.t 2), none⟩,
 ⟨(some 13), .ld true 2 (.t 12), none⟩,
 ⟨(some 14), .call f_opts_Opts_Has [(.t 13), (.c (.i .u8 112))], none⟩,
 ⟨(some 15), .un .not (.t 14), none⟩])
 (.cond (.t 15)
 (.seq (.reg [⟨(some 16), .ld true 3 (.t 2), none⟩,
 ⟨(some 17), .mv (.t 1), none⟩,
 ⟨(some 18), .call f_dirs_call_spot [(.t 16), (.t 17), (.c (.fn f_prim_MakeDir []))], none⟩,
 ⟨(some 4), .mv (.t 18), none⟩])
 .ret)
 .skip))
 (.seq (.reg [⟨(some 5), .alloc 187 [.np, .nsl], none⟩])
 (.seq (.seq (.reg [⟨(some 19), .mv (.t 1), none⟩,
 ⟨(some 20), .call f_path_Steps [(.t 19)], none⟩,
 ⟨(some 21), .len 1 (.t 20), none⟩,
 ⟨(some 22), .mv (.c (.i .i64 0)), none⟩])
 (.blk 0 (.loop (.seq (.reg [⟨(some 23), .bin .lss (.t 22) (.t 21), none⟩])
 (.seq (.cond (.t 23)
 .skip
 (.exit 0))
 (.seq (.blk 1 (.seq (.reg [⟨(some 24), .ia 1 (.t 20) (.t 22), none⟩,
 ⟨(some 25), .ld false 1 (.t 24), none⟩,
 ⟨(some 7), .mv (.t 25), none⟩])
 (.seq (.reg [⟨(some 26), .mv (.t 7), none⟩,
 ⟨(some 27), .bin .add (.c (.s [47])) (.t 26), none⟩,
 ⟨(some 28), .call f_strings_Builder_WriteString [(.t 5), (.t 27)], none⟩])
 (.seq (.regD [⟨(some 30), .fa 0 (.t 2), none⟩,
 ⟨(some 31), .ld false 1 (.t 30), none⟩,
 ⟨(some 32), .call f_strings_Builder_String [(.t 5)], none⟩,
 ⟨(some 33), .call f_walk_Find [(.t 31), (.t 32)], none⟩,
 ⟨(some 29), .mv (.t 33), none⟩,
 ⟨(some 34), .ext (.t 29) 0, none⟩,
 ⟨(some 35), .ext (.t 29) 1, none⟩,
 ⟨(some 36), .ext (.t 29) 2, none⟩,
 ⟨(some 8), .mv (.t 34), none⟩,
 ⟨(some 9), .mv (.t 35), none⟩,
 ⟨(some 10), .mv (.t 36), none⟩] [(1, (1, 3))])
 (.seq (.blk 2 (.seq (.reg [⟨(some 38), .mv (.t 10), none⟩,
 ⟨(some 39), .bin .neq (.t 38) (.c (.i .i64 0)), none⟩,
 ⟨(some 37), .mv (.t 39), none⟩])
 (.cond (.t 37)
 (.seq (.reg [⟨(some 40), .mv (.t 10), none⟩,
 ⟨(some 4), .mv (.t 40), none⟩])
 .ret)
 (.seq (.reg [⟨(some 42), .mv (.t 9), none⟩,
 ⟨(some 43), .bin .eql (.t 42) (.c (.i .u8 2)), none⟩,
 ⟨(some 41), .mv (.t 43), none⟩])
 (.cond (.t 41)
 (.exit 1)
 (.seq (.reg [⟨(some 45), .mv (.t 9), none⟩,
 ⟨(some 46), .bin .neq (.t 45) (.c (.i .u8 0)), none⟩,
 ⟨(some 44), .mv (.t 46), none⟩])
 (.cond (.t 44)
 (.seq (.reg [⟨(some 4), .mv (.c (.i .i64 55)), none⟩])
 .ret)
 .skip)))))))
 (.seq (.reg [⟨(some 47), .fa 0 (.t 2), none⟩,
 ⟨(some 48), .ld false 1 (.t 47), none⟩,
 ⟨(some 49), .mv (.t 8), none⟩,
 ⟨(some 50), .call f_prim_MakeDir [(.t 48), (.t 49)], none⟩,
 ⟨(some 11), .mv (.t 50), none⟩])
 (.seq (.reg [⟨(some 51), .mv (.t 11), none⟩,
 ⟨(some 52), .bin .neq (.t 51) (.c (.i .i64 0)), none⟩])
 (.cond (.t 52)
 (.seq (.reg [⟨(some 53), .mv (.t 11), none⟩,
 ⟨(some 4), .mv (.t 53), none⟩])
 .ret)
 .skip))))))))
 (.reg [⟨(some 54), .bin .add (.t 22) (.c (.i .i64 1)), none⟩,
 ⟨(some 22), .mv (.t 54), none⟩])))))))
 (.seq (.reg [⟨(some 4), .mv (.c (.i .i64 0)), none⟩])
 .ret))))) }
def c_dirs_call_rmdir : Fun := { cin := [(.agg [.id, .id, (.sl 1 .id)]), .id], cout := [.id], ntmps := 8, keep := false, res := [(4, none)], body :=
 (.seq (.reg [⟨(some 2), .box 112 3 (.t 0), none⟩,
 ⟨(some 4), .mv (.c (.i .i64 0)), none⟩])
 (.seq (.reg [⟨(some 5), .ld true 3 (.t 2), none⟩,
 ⟨(some 6), .mv (.t 1), none⟩,
 ⟨(some 7), .call f_dirs_call_spot [(.t 5), (.t 6), (.c (.fn f_prim_RemoveDir []))], none⟩,
 ⟨(some 4), .mv (.t 7), none⟩])
 .ret)) }
def c_dirs_call_touch : Fun := { cin := [(.agg [.id, .id, (.sl 1 .id)]), .id], cout := [.id], ntmps := 42, keep := false, res := [(4, none)], body :=
 (.seq (.reg [⟨(some 2), .box 112 3 (.t 0), none⟩,
 ⟨(some 4), .mv (.c (.i .i64 0)), none⟩])
 (.seq (.reg [⟨(some 12), .fa 0 (.t 2), none⟩,
 ⟨(some 13), .ld false 1 (.t 12), none⟩,
 ⟨(some 14), .mv (.t 1), none⟩,
 ⟨(some 15), .call f_walk_Find [(.t 13), (.t 14)], none⟩,
 ⟨(some 11), .mv (.t 15), none⟩,
 ⟨(some 16), .ext (.t 11) 0, none⟩,
 ⟨(some 17), .ext (.t 11) 1, none⟩,
 ⟨(some 18), .ext (.t 11) 2, none⟩,
 ⟨(some 5), .mv (.t 16), none⟩,
 ⟨(some 6), .mv (.t 17), none⟩,
 ⟨(some 7), .mv (.t 18), none⟩])
 (.seq (.seq (.reg [⟨(some 19), .mv (.t 7), none⟩,
 ⟨(some 20), .bin .neq (.t 19) (.c (.i .i64 0)), none⟩])
 (.cond (.t 20)
 (.seq (.reg [⟨(some 21), .mv (.t 7), none⟩,
 ⟨(some 4), .mv (.t 21), none⟩])
 .ret)
 .skip))
 (.seq (.seq (.reg [⟨(some 22), .mv (.t 6), none⟩,
 ⟨(some 23), .bin .eql (.t 22) (.c (.i .u8 0)), none⟩])
 (.cond (.t 23)
 (.seq (.reg [⟨(some 25), .fa 0 (.t 2), none⟩,
 ⟨(some 26), .ld false 1 (.t 25), none⟩,
 ⟨(some 27), .mv (.t 1), none⟩,
 ⟨(some 28), .call f_walk_Spot [(.t 26), (.t 27)], none⟩,
 ⟨(some 24), .mv (.t 28), none⟩,
 ⟨(some 29), .ext (.t 24) 0, none⟩,
 ⟨(some 30), .ext (.t 24) 1, none⟩,
 ⟨(some 31), .ext (.t 24) 2, none⟩,
 ⟨(some 8), .mv (.t 29), none⟩,
 ⟨(some 9), .mv (.t 30), none⟩,
 ⟨(some 10), .mv (.t 31), none⟩])
 (.seq (.reg [⟨(some 32), .mv (.t 9), none⟩,
 ⟨(some 33), .bin .eql (.t 32) (.c (.i .u8 3)), none⟩,
 ⟨(some 34), .mv (.t 33), none⟩,
 ⟨(some 35), .mv (.t 1), (some (34, false))⟩,
 ⟨(some 36), .call f_path_Dir [(.t 35)], (some (34, false))⟩,
 ⟨(some 37), .pick (.t 34) (.c (.b true)) (.t 36), none⟩])
 (.cond (.t 37)
 (.seq (.reg [⟨(some 4), .mv (.c (.i .i64 5)), none⟩])
 .ret)
 .skip)))
 .skip))
 (.seq (.reg [⟨(some 38), .fa 0 (.t 2), none⟩,
 ⟨(some 39), .ld false 1 (.t 38), none⟩,
 ⟨(some 40), .mv (.t 5), none⟩,
 ⟨(some 41), .call f_prim_Touch [(.t 39), (.t 40)], none⟩,
 ⟨(some 4), .mv (.t 41), none⟩])
 .ret))))) }
def c_dirs_utilities_2 : Fun := { cin := [(.agg [.id, .id, (.sl 1 .id)])], cout := [.id], ntmps := 6, keep := false, res := [(2, none)], body :=
 (.seq (.reg [⟨(some 1), .box 112 3 (.t 0), none⟩,
 ⟨(some 2), .mv (.c (.b false)), none⟩])
 (.seq (.reg [⟨(some 3), .fa 1 (.t 1), none⟩,
 ⟨(some 4), .ld true 2 (.t 3), none⟩,
 ⟨(some 5), .call f_opts_Opts_Has [(.t 4), (.c (.i .u8 102))], none⟩,
 ⟨(some 2), .mv (.t 5), none⟩])
 .ret)) }
def c_dirs_call_rm : Fun := { cin := [(.agg [.id, .id, (.sl 1 .id)]), .id], cout := [.id], ntmps := 50, keep := false, res := [(4, none)], body :=
 (.seq (.reg [⟨(some 2), .box 112 3 (.t 0), none⟩,
 ⟨(some 4), .mv (.c (.i .i64 0)), none⟩])
 (.seq (.reg [⟨(some 9), .fa 0 (.t 2), none⟩,
 ⟨(some 10), .ld false 1 (.t 9), none⟩,
 ⟨(some 11), .mv (.t 1), none⟩,
 ⟨(some 12), .call f_walk_Spot [(.t 10), (.t 11)], none⟩,
 ⟨(some 8), .mv (.t 12), none⟩,
 ⟨(some 13), .ext (.t 8) 0, none⟩,
 ⟨(some 14), .ext (.t 8) 1, none⟩,
 ⟨(some 15), .ext (.t 8) 2, none⟩,
 ⟨(some 5), .mv (.t 13), none⟩,
 ⟨(some 6), .mv (.t 14), none⟩,
 ⟨(some 7), .mv (.t 15), none⟩])
 (.seq (.seq (.reg [⟨(some 16), .mv (.t 7), none⟩,
 ⟨(some 17), .bin .eql (.t 16) (.c (.i .i64 0)), none⟩,
 ⟨(some 18), .mv (.t 17), none⟩,
 ⟨(some 19), .mv (.t 6), (some (18, true))⟩,
 ⟨(some 20), .bin .eql (.t 19) (.c (.i .u8 0)), (some (18, true))⟩,
 ⟨(some 21), .pick (.t 18) (.t 20) (.c (.b false)), none⟩])
 (.cond (.t 21)
 (.reg [⟨(some 7), .mv (.c (.i .i64 5)), none⟩])
 .skip))
 (.seq (.blk 0 (.seq (.reg [⟨(some 23), .mv (.t 7), none⟩,
 ⟨(some 24), .bin .eql (.t 23) (.c (.i .i64 5)), none⟩,
 ⟨(some 25), .mv (.t 24), none⟩,
 ⟨(some 26), .fa 1 (.t 2), (some (25, true))⟩,
 ⟨(some 27), .ld true 2 (.t 26), (some (25, true))⟩,
 ⟨(some 28), .call f_opts_Opts_Has [(.t 27), (.c (.i .u8 102))], (some (25, true))⟩,
 ⟨(some 29), .pick (.t 25) (.t 28) (.c (.b false)), none⟩,
 ⟨(some 22), .mv (.t 29), none⟩])
 (.cond (.t 22)
 (.seq (.reg [⟨(some 4), .mv (.c (.i .i64 0)), none⟩])
 .ret)
 (.seq (.reg [⟨(some 31), .mv (.t 7), none⟩,
 ⟨(some 32), .bin .neq (.t 31) (.c (.i .i64 0)), none⟩,
 ⟨(some 30), .mv (.t 32), none⟩])
 (.cond (.t 30)
 (.seq (.reg [⟨(some 33), .mv (.t 7), none⟩,
 ⟨(some 4), .mv (.t 33), none⟩])
 .ret)
 (.seq (.reg [⟨(some 35), .mv (.t 6), none⟩,
 ⟨(some 36), .bin .neq (.t 35) (.c (.i .u8 2)), none⟩,
 ⟨(some 34), .mv (.t 36), none⟩])
 (.cond (.t 34)
 (.seq (.reg [⟨(some 37), .fa 0 (.t 2), none⟩,
 ⟨(some 38), .ld false 1 (.t 37), none⟩,
 ⟨(some 39), .mv (.t 5), none⟩,
 ⟨(some 40), .call f_prim_Unlink [(.t 38), (.t 39)], none⟩,
 ⟨(some 4), .mv (.t 40), none⟩])
 .ret)
 (.seq (.reg [⟨(some 42), .fa 1 (.t 2), none⟩,
 ⟨(some 43), .ld true 2 (.t 42), none⟩,
 ⟨(some 44), .call f_opts_Opts_Has [(.t 43), (.c (.i .u8 114))], none⟩,
 ⟨(some 45), .un .not (.t 44), none⟩,
 ⟨(some 41), .mv (.t 45), none⟩])
 (.cond (.t 41)
 (.seq (.reg [⟨(some 4), .mv (.c (.i .i64 55)), none⟩])
 .ret)
 .skip)))))))))
 (.seq (.reg [⟨(some 46), .fa 0 (.t 2), none⟩,
 ⟨(some 47), .ld false 1 (.t 46), none⟩,
 ⟨(some 48), .mv (.t 5), none⟩,
 ⟨(some 49), .call f_prim_RemoveAll [(.t 47), (.t 48)], none⟩,
 ⟨(some 4), .mv (.t 49), none⟩])
 .ret))))) }
def c_opts_letter : Fun := { cin := [.id], cout := [.id], ntmps := 17, keep := false, res := [(2, none)], body :=
 (.seq (.reg [⟨(some 2), .mv (.c (.b false)), none⟩])
 (.seq (.reg [⟨(some 3), .mv (.t 0), none⟩,
 ⟨(some 4), .bin .geq (.t 3) (.c (.i .u8 97)), none⟩,
 ⟨(some 5), .mv (.t 4), none⟩,
 ⟨(some 6), .mv (.t 0), (some (5, true))⟩,
 ⟨(some 7), .bin .leq (.t 6) (.c (.i .u8 122)), (some (5, true))⟩,
 ⟨(some 8), .pick (.t 5) (.t 7) (.c (.b false)), none⟩,
 ⟨(some 9), .mv (.t 8), none⟩,
 ⟨(some 10), .mv (.t 0), (some (9, false))⟩,
 ⟨(some 11), .bin .geq (.t 10) (.c (.i .u8 65)), (some (9, false))⟩,
 ⟨(some 12), .mv (.t 11), (some (9, false))⟩,
 ⟨(some 13), .mv (.t 0), (some (12, true))⟩,
 ⟨(some 14), .bin .leq (.t 13) (.c (.i .u8 90)), (some (12, true))⟩,
 ⟨(some 15), .pick (.t 12) (.t 14) (.c (.b false)), (some (9, false))⟩,
 ⟨(some 16), .pick (.t 9) (.c (.b true)) (.t 15), none⟩,
 ⟨(some 2), .mv (.t 16), none⟩])
 .ret)) }
def c_internal_stringslite_IndexByte : Fun := { cin := [.id, .id], cout := [.id], ntmps := 8, keep := false, res := [(4, none)], body :=
 (.seq (.reg [⟨(some 4), .mv (.c (.i .i64 0)), none⟩])
 (.seq (.reg [⟨(some 5), .mv (.t 0), none⟩,
 ⟨(some 6), .mv (.t 1), none⟩,
 ⟨(some 7), .xtn 0 [(.t 5), (.t 6)], none⟩,
 ⟨(some 4), .mv (.t 7), none⟩])
 .ret)) }
def c_strings_ContainsAny : Fun := { cin := [.id, .id], cout := [.id], ntmps := 9, keep := false, res := [(4, none)], body :=
 (.seq (.reg [⟨(some 4), .mv (.c (.b false)), none⟩])
 (.seq (.reg [⟨(some 5), .mv (.t 0), none⟩,
 ⟨(some 6), .mv (.t 1), none⟩,
 ⟨(some 7), .call f_strings_IndexAny [(.t 5), (.t 6)], none⟩,
 ⟨(some 8), .bin .geq (.t 7) (.c (.i .i64 0)), none⟩,
 ⟨(some 4), .mv (.t 8), none⟩])
 .ret)) }
def c_path_Steps : Fun := { cin := [.id], cout := [(.sl 1 .id)], ntmps := 6, keep := false, res := [(2, none)], body :=
 (.seq (.reg [⟨(some 2), .mv (.c .nsl), none⟩])
 (.seq (.reg [⟨(some 3), .mv (.t 0), none⟩,
 ⟨(some 4), .call f_path_steps [(.t 3)], none⟩,
 ⟨(some 5), .call f_slices_Collect_string [(.t 4)], none⟩,
 ⟨(some 2), .mv (.t 5), none⟩])
 .ret)) }
def c_path_Dir : Fun := { cin := [.id], cout := [.id], ntmps := 23, keep := false, res := [(2, none)], body :=
 (.seq (.reg [⟨(some 2), .mv (.c (.b false)), none⟩])
 (.seq (.reg [⟨(some 4), .mv (.t 0), none⟩,
 ⟨(some 5), .mv (.t 0), none⟩,
 ⟨(some 6), .call f_strings_LastIndexByte [(.t 5), (.c (.i .u8 47))], none⟩,
 ⟨(some 7), .bin .add (.t 6) (.c (.i .i64 1)), none⟩,
 ⟨(some 8), .slS (.t 4) (some (.t 7)) none, none⟩,
 ⟨(some 3), .mv (.t 8), none⟩])
 (.seq (.reg [⟨(some 9), .mv (.t 3), none⟩,
 ⟨(some 10), .bin .eql (.t 9) (.c (.s [46])), none⟩,
 ⟨(some 11), .mv (.t 10), none⟩,
 ⟨(some 12), .mv (.t 3), (some (11, false))⟩,
 ⟨(some 13), .bin .eql (.t 12) (.c (.s [46, 46])), (some (11, false))⟩,
 ⟨(some 14), .pick (.t 11) (.c (.b true)) (.t 13), none⟩,
 ⟨(some 15), .mv (.t 14), none⟩,
 ⟨(some 16), .mv (.t 3), (some (15, false))⟩,
 ⟨(some 17), .bin .eql (.t 16) (.c (.s [])), (some (15, false))⟩,
 ⟨(some 18), .mv (.t 17), (some (15, false))⟩,
 ⟨(some 19), .mv (.t 0), (some (18, true))⟩,
 ⟨(some 20), .bin .neq (.t 19) (.c (.s [])), (some (18, true))⟩,
 ⟨(some 21), .pick (.t 18) (.t 20) (.c (.b false)), (some (15, false))⟩,
 ⟨(some 22), .pick (.t 15) (.c (.b true)) (.t 21), none⟩,
 ⟨(some 2), .mv (.t 22), none⟩])
 .ret))) }
def c_walk_walker_run : Fun := { cin := [.id], cout := [(.sl 1 .id), .id, .id], ntmps := 66, keep := false, res := [(2, none), (3, none), (4, none)], body :=
 (.seq (.reg [⟨(some 2), .mv (.c .nsl), none⟩,
 ⟨(some 3), .mv (.c (.i .u8 0)), none⟩,
 ⟨(some 4), .mv (.c (.i .i64 0)), none⟩])
 (.seq (.blk 0 (.loop (.seq (.seq (.reg [⟨(some 9), .mv (.t 0), none⟩,
 ⟨(some 10), .nck (.t 9), none⟩,
 ⟨(some 11), .fa 2 (.t 10), none⟩,
 ⟨(some 12), .ld false 1 (.t 11), none⟩,
 ⟨(some 13), .len 1 (.t 12), none⟩,
 ⟨(some 14), .bin .gtr (.t 13) (.c (.i .i64 0)), none⟩])
 (.cond (.t 14)
 .skip
 (.exit 0)))
 (.blk 1 (.seq (.reg [⟨(some 15), .mv (.t 0), none⟩,
 ⟨(some 16), .nck (.t 15), none⟩,
 ⟨(some 17), .fa 2 (.t 16), none⟩,
 ⟨(some 18), .ld false 1 (.t 17), none⟩,
 ⟨(some 19), .ia 1 (.t 18) (.c (.i .i64 0)), none⟩,
 ⟨(some 20), .ld false 1 (.t 19), none⟩,
 ⟨(some 5), .mv (.t 20), none⟩])
 (.seq (.reg [⟨(some 21), .mv (.t 0), none⟩,
 ⟨(some 22), .mv (.t 0), none⟩,
 ⟨(some 23), .nck (.t 22), none⟩,
 ⟨(some 24), .fa 2 (.t 23), none⟩,
 ⟨(some 25), .ld false 1 (.t 24), none⟩,
 ⟨(some 26), .slc false 1 (.t 25) (some (.c (.i .i64 1))) none none, none⟩,
 ⟨(some 27), .nck (.t 21), none⟩,
 ⟨(some 28), .fa 2 (.t 27), none⟩,
 ⟨none, .st 1 (.t 28) (.t 26), none⟩])
 (.seq (.seq (.reg [⟨(some 29), .mv (.t 5), none⟩,
 ⟨(some 30), .bin .eql (.t 29) (.c (.s [46, 46])), none⟩])
 (.cond (.t 30)
 (.seq (.regD [⟨(some 31), .mv (.t 0), none⟩,
 ⟨(some 32), .mv (.t 0), none⟩,
 ⟨(some 33), .nck (.t 32), none⟩,
 ⟨(some 34), .fa 1 (.t 33), none⟩,
 ⟨(some 35), .ld false 1 (.t 34), none⟩,
 ⟨(some 36), .mv (.t 0), none⟩,
 ⟨(some 37), .nck (.t 36), none⟩,
 ⟨(some 38), .fa 1 (.t 37), none⟩,
 ⟨(some 39), .ld false 1 (.t 38), none⟩,
 ⟨(some 40), .len 1 (.t 39), none⟩,
 ⟨(some 41), .bin .sub (.t 40) (.c (.i .i64 1)), none⟩,
 ⟨(some 42), .mm true (.c (.i .i64 0)) (.t 41), none⟩,
 ⟨(some 43), .slc true 1 (.t 35) none (some (.t 42)) none, none⟩,
 ⟨(some 44), .nck (.t 31), none⟩,
 ⟨(some 45), .fa 1 (.t 44), none⟩,
 ⟨none, .st 1 (.t 45) (.t 43), none⟩] [])
 (.exit 1))
 .skip))
 (.seq (.reg [⟨(some 47), .mv (.t 0), none⟩,
 ⟨(some 48), .mv (.t 5), none⟩,
 ⟨(some 49), .call f_walk_walker_name [(.t 47), (.t 48)], none⟩,
 ⟨(some 46), .mv (.t 49), none⟩,
 ⟨(some 50), .ext (.t 46) 0, none⟩,
 ⟨(some 51), .ext (.t 46) 1, none⟩,
 ⟨(some 52), .ext (.t 46) 2, none⟩,
 ⟨(some 6), .mv (.t 50), none⟩,
 ⟨(some 7), .mv (.t 51), none⟩,
 ⟨(some 8), .mv (.t 52), none⟩])
 (.seq (.seq (.reg [⟨(some 53), .mv (.t 8), none⟩,
 ⟨(some 54), .bin .neq (.t 53) (.c (.i .i64 0)), none⟩])
 (.cond (.t 54)
 (.seq (.reg [⟨(some 55), .mv (.t 8), none⟩,
 ⟨(some 2), .mv (.c .nsl), none⟩,
 ⟨(some 3), .mv (.c (.i .u8 0)), none⟩,
 ⟨(some 4), .mv (.t 55), none⟩])
 .ret)
 .skip))
 (.seq (.reg [⟨(some 56), .mv (.t 7), none⟩])
 (.cond (.t 56)
 (.seq (.reg [⟨(some 57), .mv (.t 0), none⟩,
 ⟨(some 58), .nck (.t 57), none⟩,
 ⟨(some 59), .fa 1 (.t 58), none⟩,
 ⟨(some 60), .ld false 1 (.t 59), none⟩,
 ⟨(some 61), .mv (.t 6), none⟩,
 ⟨(some 2), .mv (.t 60), none⟩,
 ⟨(some 3), .mv (.t 61), none⟩,
 ⟨(some 4), .mv (.c (.i .i64 0)), none⟩])
 .ret)
 .skip)))))))))))
 (.seq (.reg [⟨(some 62), .mv (.t 0), none⟩,
 ⟨(some 63), .nck (.t 62), none⟩,
 ⟨(some 64), .fa 1 (.t 63), none⟩,
 ⟨(some 65), .ld false 1 (.t 64), none⟩,
 ⟨(some 2), .mv (.t 65), none⟩,
 ⟨(some 3), .mv (.c (.i .u8 2)), none⟩,
 ⟨(some 4), .mv (.c (.i .i64 0)), none⟩])
 .ret))) }
def c_strings_Index : Fun := { cin := [.id, .id], cout := [.id], ntmps := 8, keep := false, res := [(4, none)], body :=
 (.seq (.reg [⟨(some 4), .mv (.c (.i .i64 0)), none⟩])
 (.seq (.reg [⟨(some 5), .mv (.t 0), none⟩,
 ⟨(some 6), .mv (.t 1), none⟩,
 ⟨(some 7), .call f_internal_stringslite_Index [(.t 5), (.t 6)], none⟩,
 ⟨(some 4), .mv (.t 7), none⟩])
 .ret)) }
def c_path_steps_1 : Fun := { cin := [.id], cout := [], ntmps := 19, keep := false, res := [], body :=
 (.seq (.reg [⟨(some 2), .box 114 1 (.t 0), none⟩])
 (.seq (.reg [⟨(some 4), .ld false 1 (.t 1), none⟩,
 ⟨(some 5), .call f_strings_SplitSeq [(.t 4), (.c (.s [47]))], none⟩])
 (.blk 0 (.rf (.t 5) [6] (.reg [⟨(some 3), .mv (.t 6), none⟩])
 (.blk 1 (.seq (.reg [⟨(some 7), .mv (.t 3), none⟩,
 ⟨(some 8), .bin .neq (.t 7) (.c (.s [])), none⟩,
 ⟨(some 9), .mv (.t 8), none⟩,
 ⟨(some 10), .mv (.t 3), (some (9, true))⟩,
 ⟨(some 11), .bin .neq (.t 10) (.c (.s [46])), (some (9, true))⟩,
 ⟨(some 12), .pick (.t 9) (.t 11) (.c (.b false)), none⟩,
 ⟨(some 13), .mv (.t 12), none⟩,
 ⟨(some 14), .ld false 1 (.t 2), (some (13, true))⟩,
 ⟨(some 15), .mv (.t 3), (some (13, true))⟩,
 ⟨(some 16), .callX (.t 14) [(.t 15)], (some (13, true))⟩,
 ⟨(some 17), .un .not (.t 16), (some (13, true))⟩,
 ⟨(some 18), .pick (.t 13) (.t 17) (.c (.b false)), none⟩])
 (.cond (.t 18)
 .ret
 .skip))))))) }
def c_strings_SplitSeq : Fun := { cin := [.id, .id], cout := [.id], ntmps := 8, keep := false, res := [(4, none)], body :=
 (.seq (.reg [⟨(some 4), .mv (.c .nf), none⟩])
 (.seq (.reg [⟨(some 5), .mv (.t 0), none⟩,
 ⟨(some 6), .mv (.t 1), none⟩,
 ⟨(some 7), .call f_strings_splitSeq [(.t 5), (.t 6), (.c (.i .i64 0))], none⟩,
 ⟨(some 4), .mv (.t 7), none⟩])
 .ret)) }
def c_strings_Builder_WriteString : Fun := { cin := [.id, .id], cout := [.id, .id], ntmps := 19, keep := false, res := [(4, none), (5, none)], body :=
 (.seq (.reg [⟨(some 4), .mv (.c (.i .i64 0)), none⟩,
 ⟨(some 5), .mv (.c .ni), none⟩])
 (.seq (.reg [⟨(some 6), .mv (.t 0), none⟩,
 ⟨(some 7), .call f_strings_Builder_copyCheck [(.t 6)], none⟩])
 (.seq (.reg [⟨(some 8), .mv (.t 0), none⟩,
 ⟨(some 9), .mv (.t 0), none⟩,
 ⟨(some 10), .nck (.t 9), none⟩,
 ⟨(some 11), .fa 1 (.t 10), none⟩,
 ⟨(some 12), .ld false 1 (.t 11), none⟩,
 ⟨(some 13), .mv (.t 1), none⟩,
 ⟨(some 14), .app 1 5 (.t 12) (.t 13), none⟩,
 ⟨(some 15), .nck (.t 8), none⟩,
 ⟨(some 16), .fa 1 (.t 15), none⟩,
 ⟨none, .st 1 (.t 16) (.t 14), none⟩])
 (.seq (.reg [⟨(some 17), .mv (.t 1), none⟩,
 ⟨(some 18), .len 0 (.t 17), none⟩,
 ⟨(some 4), .mv (.t 18), none⟩,
 ⟨(some 5), .mv (.c .ni), none⟩])
 .ret)))) }
def c_strings_Builder_String : Fun := { cin := [.id], cout := [.id], ntmps := 14, keep := false, res := [(2, none)], body :=
 (.seq (.reg [⟨(some 2), .mv (.c (.s [])), none⟩])
 (.seq (.regD [⟨(some 3), .mv (.t 0), none⟩,
 ⟨(some 4), .nck (.t 3), none⟩,
 ⟨(some 5), .fa 1 (.t 4), none⟩,
 ⟨(some 6), .ld false 1 (.t 5), none⟩,
 ⟨(some 7), .ud (.t 6), none⟩,
 ⟨(some 8), .mv (.t 0), none⟩,
 ⟨(some 9), .nck (.t 8), none⟩,
 ⟨(some 10), .fa 1 (.t 9), none⟩,
 ⟨(some 11), .ld false 1 (.t 10), none⟩,
 ⟨(some 12), .len 1 (.t 11), none⟩,
 ⟨(some 13), .us 5 (.t 7) (.t 12), none⟩,
 ⟨(some 2), .mv (.t 13), none⟩] [])
 .ret)) }
def c_strings_LastIndexByte : Fun := { cin := [.id, .id], cout := [.id], ntmps := 8, keep := false, res := [(4, none)], body :=
 (.seq (.reg [⟨(some 4), .mv (.c (.i .i64 0)), none⟩])
 (.seq (.reg [⟨(some 5), .mv (.t 0), none⟩,
 ⟨(some 6), .mv (.t 1), none⟩,
 ⟨(some 7), .call f_internal_bytealg_LastIndexByteString [(.t 5), (.t 6)], none⟩,
 ⟨(some 4), .mv (.t 7), none⟩])
 .ret)) }
def c_slices_BinarySearch_string_string : Fun := { cin := [(.sl 1 .id), .id], cout := [.id, .id], ntmps := 54, keep := false, res := [(4, none), (5, none)], body :=
 (.seq (.reg [⟨(some 4), .mv (.c (.i .i64 0)), none⟩,
 ⟨(some 5), .mv (.c (.b false)), none⟩])
 (.seq (.reg [⟨(some 10), .mv (.t 0), none⟩,
 ⟨(some 11), .len 1 (.t 10), none⟩,
 ⟨(some 6), .mv (.t 11), none⟩])
 (.seq (.reg [⟨(some 12), .mv (.t 6), none⟩,
 ⟨(some 7), .mv (.c (.i .i64 0)), none⟩,
 ⟨(some 8), .mv (.t 12), none⟩])
 (.seq (.blk 0 (.loop (.seq (.seq (.reg [⟨(some 13), .mv (.t 7), none⟩,
 ⟨(some 14), .mv (.t 8), none⟩,
 ⟨(some 15), .bin .lss (.t 13) (.t 14), none⟩])
 (.cond (.t 15)
 .skip
 (.exit 0)))
 (.blk 1 (.seq (.reg [⟨(some 16), .mv (.t 7), none⟩,
 ⟨(some 17), .mv (.t 8), none⟩,
 ⟨(some 18), .bin .add (.t 16) (.t 17), none⟩,
 ⟨(some 19), .cvI .u64 (.t 18), none⟩,
 ⟨(some 20), .bin .shr (.t 19) (.c (.i .u64 1)), none⟩,
 ⟨(some 21), .cvI .i64 (.t 20), none⟩,
 ⟨(some 9), .mv (.t 21), none⟩])
 (.seq (.reg [⟨(some 22), .mv (.t 0), none⟩,
 ⟨(some 23), .mv (.t 9), none⟩,
 ⟨(some 24), .ia 1 (.t 22) (.t 23), none⟩,
 ⟨(some 25), .ld false 1 (.t 24), none⟩,
 ⟨(some 26), .mv (.t 1), none⟩,
 ⟨(some 27), .call f_cmp_Less_string [(.t 25), (.t 26)], none⟩])
 (.cond (.t 27)
 (.reg [⟨(some 28), .mv (.t 9), none⟩,
 ⟨(some 29), .bin .add (.t 28) (.c (.i .i64 1)), none⟩,
 ⟨(some 7), .mv (.t 29), none⟩])
 (.reg [⟨(some 30), .mv (.t 9), none⟩,
 ⟨(some 8), .mv (.t 30), none⟩]))))))))
 (.seq (.reg [⟨(some 31), .mv (.t 7), none⟩,
 ⟨(some 32), .mv (.t 7), none⟩,
 ⟨(some 33), .mv (.t 6), none⟩,
 ⟨(some 34), .bin .lss (.t 32) (.t 33), none⟩,
 ⟨(some 35), .mv (.t 34), none⟩,
 ⟨(some 36), .mv (.t 0), (some (35, true))⟩,
 ⟨(some 37), .mv (.t 7), (some (35, true))⟩,
 ⟨(some 38), .ia 1 (.t 36) (.t 37), (some (35, true))⟩,
 ⟨(some 39), .ld false 1 (.t 38), (some (35, true))⟩,
 ⟨(some 40), .mv (.t 1), (some (35, true))⟩,
 ⟨(some 41), .bin .eql (.t 39) (.t 40), (some (35, true))⟩,
 ⟨(some 42), .mv (.t 41), (some (35, true))⟩,
 ⟨(some 43), .mv (.t 0), (some (42, false))⟩,
 ⟨(some 44), .mv (.t 7), (some (42, false))⟩,
 ⟨(some 45), .ia 1 (.t 43) (.t 44), (some (42, false))⟩,
 ⟨(some 46), .ld false 1 (.t 45), (some (42, false))⟩,
 ⟨(some 47), .call f_slices_isNaN_string [(.t 46)], (some (42, false))⟩,
 ⟨(some 48), .mv (.t 47), (some (42, false))⟩,
 ⟨(some 49), .mv (.t 1), (some (48, true))⟩,
 ⟨(some 50), .call f_slices_isNaN_string [(.t 49)], (some (48, true))⟩,
 ⟨(some 51), .pick (.t 48) (.t 50) (.c (.b false)), (some (42, false))⟩,
 ⟨(some 52), .pick (.t 42) (.c (.b true)) (.t 51), (some (35, true))⟩,
 ⟨(some 53), .pick (.t 35) (.t 52) (.c (.b false)), none⟩,
 ⟨(some 4), .mv (.t 31), none⟩,
 ⟨(some 5), .mv (.t 53), none⟩])
 .ret))))) }
def c_strings_HasPrefix : Fun := { cin := [.id, .id], cout := [.id], ntmps := 8, keep := false, res := [(4, none)], body :=
 (.seq (.reg [⟨(some 4), .mv (.c (.b false)), none⟩])
 (.seq (.reg [⟨(some 5), .mv (.t 0), none⟩,
 ⟨(some 6), .mv (.t 1), none⟩,
 ⟨(some 7), .call f_internal_stringslite_HasPrefix [(.t 5), (.t 6)], none⟩,
 ⟨(some 4), .mv (.t 7), none⟩])
 .ret)) }
def c_pat_dir : Fun := { cin := [(.agg [.id, .id, (.sl 1 .id), (.sl 1 .id), .id, .id])], cout := [.id], ntmps := 10, keep := false, res := [(2, none)], body :=
 (.seq (.reg [⟨(some 1), .box 84 6 (.t 0), none⟩,
 ⟨(some 2), .mv (.c (.b false)), none⟩])
 (.seq (.reg [⟨(some 3), .fa 0 (.t 1), none⟩,
 ⟨(some 4), .ld false 1 (.t 3), none⟩,
 ⟨(some 5), .mv (.t 4), none⟩,
 ⟨(some 6), .fa 1 (.t 1), (some (5, true))⟩,
 ⟨(some 7), .ld false 1 (.t 6), (some (5, true))⟩,
 ⟨(some 8), .bin .eql (.t 7) (.c (.i .u8 2)), (some (5, true))⟩,
 ⟨(some 9), .pick (.t 5) (.t 8) (.c (.b false)), none⟩,
 ⟨(some 2), .mv (.t 9), none⟩])
 .ret)) }
def c_pat_one : Fun := { cin := [(.agg [.id, .id, (.sl 1 .id), (.sl 1 .id), .id, .id])], cout := [.id], ntmps := 99, keep := false, res := [(2, none)], body :=
 (.seq (.reg [⟨(some 1), .box 84 6 (.t 0), none⟩,
 ⟨(some 2), .mv (.c (.b false)), none⟩])
 (.seq (.blk 0 (.seq (.reg [⟨(some 6), .fa 1 (.t 1), none⟩,
 ⟨(some 7), .ld false 1 (.t 6), none⟩,
 ⟨(some 8), .bin .gtr (.t 7) (.c (.i .u8 3)), none⟩,
 ⟨(some 9), .mv (.t 8), none⟩,
 ⟨(some 10), .fa 0 (.t 1), (some (9, false))⟩,
 ⟨(some 11), .ld false 1 (.t 10), (some (9, false))⟩,
 ⟨(some 12), .un .not (.t 11), (some (9, false))⟩,
 ⟨(some 13), .mv (.t 12), (some (9, false))⟩,
 ⟨(some 14), .fa 1 (.t 1), (some (13, true))⟩,
 ⟨(some 15), .ld false 1 (.t 14), (some (13, true))⟩,
 ⟨(some 16), .bin .neq (.t 15) (.c (.i .u8 0)), (some (13, true))⟩,
 ⟨(some 17), .pick (.t 13) (.t 16) (.c (.b false)), (some (9, false))⟩,
 ⟨(some 18), .pick (.t 9) (.c (.b true)) (.t 17), none⟩,
 ⟨(some 19), .mv (.t 18), none⟩,
 ⟨(some 20), .fa 2 (.t 1), (some (19, false))⟩,
 ⟨(some 21), .ld false 1 (.t 20), (some (19, false))⟩,
 ⟨(some 22), .len 1 (.t 21), (some (19, false))⟩,
 ⟨(some 23), .fa 3 (.t 1), (some (19, false))⟩,
 ⟨(some 24), .ld false 1 (.t 23), (some (19, false))⟩,
 ⟨(some 25), .len 1 (.t 24), (some (19, false))⟩,
 ⟨(some 26), .bin .neq (.t 22) (.t 25), (some (19, false))⟩,
 ⟨(some 27), .pick (.t 19) (.c (.b true)) (.t 26), none⟩,
 ⟨(some 5), .mv (.t 27), none⟩])
 (.cond (.t 5)
 (.seq (.reg [⟨(some 2), .mv (.c (.b false)), none⟩])
 .ret)
 (.seq (.reg [⟨(some 29), .ld true 6 (.t 1), none⟩,
 ⟨(some 30), .call f_pat_dir [(.t 29)], none⟩,
 ⟨(some 31), .un .not (.t 30), none⟩,
 ⟨(some 28), .mv (.t 31), none⟩])
 (.cond (.t 28)
 (.seq (.reg [⟨(some 32), .fa 2 (.t 1), none⟩,
 ⟨(some 33), .ld false 1 (.t 32), none⟩,
 ⟨(some 34), .len 1 (.t 33), none⟩,
 ⟨(some 35), .bin .eql (.t 34) (.c (.i .i64 0)), none⟩,
 ⟨(some 36), .mv (.t 35), none⟩,
 ⟨(some 37), .fa 4 (.t 1), (some (36, true))⟩,
 ⟨(some 38), .ld false 1 (.t 37), (some (36, true))⟩,
 ⟨(some 39), .bin .eql (.t 38) (.c (.i .i64 0)), (some (36, true))⟩,
 ⟨(some 40), .pick (.t 36) (.t 39) (.c (.b false)), none⟩,
 ⟨(some 41), .mv (.t 40), none⟩,
 ⟨(some 42), .fa 5 (.t 1), (some (41, true))⟩,
 ⟨(some 43), .ld false 1 (.t 42), (some (41, true))⟩,
 ⟨(some 44), .bin .eql (.t 43) (.c (.i .i64 0)), (some (41, true))⟩,
 ⟨(some 45), .pick (.t 41) (.t 44) (.c (.b false)), none⟩,
 ⟨(some 2), .mv (.t 45), none⟩])
 .ret)
 .skip)))))
 (.seq (.seq (.reg [⟨(some 46), .fa 2 (.t 1), none⟩,
 ⟨(some 47), .ld false 1 (.t 46), none⟩,
 ⟨(some 48), .len 1 (.t 47), none⟩,
 ⟨(some 49), .mv (.c (.i .i64 0)), none⟩])
 (.blk 1 (.loop (.seq (.reg [⟨(some 50), .bin .lss (.t 49) (.t 48), none⟩])
 (.seq (.cond (.t 50)
 .skip
 (.exit 1))
 (.seq (.blk 2 (.seq (.reg [⟨(some 51), .mv (.t 49), none⟩,
 ⟨(some 52), .ia 1 (.t 47) (.t 49), none⟩,
 ⟨(some 53), .ld false 1 (.t 52), none⟩,
 ⟨(some 3), .mv (.t 51), none⟩,
 ⟨(some 4), .mv (.t 53), none⟩])
 (.seq (.reg [⟨(some 54), .mv (.t 4), none⟩,
 ⟨(some 55), .call f_path_Name [(.t 54)], none⟩,
 ⟨(some 56), .un .not (.t 55), none⟩,
 ⟨(some 57), .mv (.t 56), none⟩,
 ⟨(some 58), .mv (.t 3), (some (57, false))⟩,
 ⟨(some 59), .bin .gtr (.t 58) (.c (.i .i64 0)), (some (57, false))⟩,
 ⟨(some 60), .mv (.t 59), (some (57, false))⟩,
 ⟨(some 61), .mv (.t 4), (some (60, true))⟩,
 ⟨(some 62), .fa 2 (.t 1), (some (60, true))⟩,
 ⟨(some 63), .ld false 1 (.t 62), (some (60, true))⟩,
 ⟨(some 64), .mv (.t 3), (some (60, true))⟩,
 ⟨(some 65), .bin .sub (.t 64) (.c (.i .i64 1)), (some (60, true))⟩,
 ⟨(some 66), .ia 1 (.t 63) (.t 65), (some (60, true))⟩,
 ⟨(some 67), .ld false 1 (.t 66), (some (60, true))⟩,
 ⟨(some 68), .bin .leq (.t 61) (.t 67), (some (60, true))⟩,
 ⟨(some 69), .pick (.t 60) (.t 68) (.c (.b false)), (some (57, false))⟩,
 ⟨(some 70), .pick (.t 57) (.c (.b true)) (.t 69), none⟩])
 (.cond (.t 70)
 (.seq (.reg [⟨(some 2), .mv (.c (.b false)), none⟩])
 .ret)
 .skip))))
 (.reg [⟨(some 71), .bin .add (.t 49) (.c (.i .i64 1)), none⟩,
 ⟨(some 49), .mv (.t 71), none⟩])))))))
 (.seq (.seq (.reg [⟨(some 72), .fa 4 (.t 1), none⟩,
 ⟨(some 73), .ld false 1 (.t 72), none⟩,
 ⟨(some 74), .bin .eql (.t 73) (.c (.i .i64 2)), none⟩])
 (.cond (.t 74)
 (.seq (.reg [⟨(some 75), .fa 5 (.t 1), none⟩,
 ⟨(some 76), .ld false 1 (.t 75), none⟩,
 ⟨(some 77), .bin .geq (.t 76) (.c (.i .i64 0)), none⟩,
 ⟨(some 78), .mv (.t 77), none⟩,
 ⟨(some 79), .fa 5 (.t 1), (some (78, true))⟩,
 ⟨(some 80), .ld false 1 (.t 79), (some (78, true))⟩,
 ⟨(some 81), .fa 2 (.t 1), (some (78, true))⟩,
 ⟨(some 82), .ld false 1 (.t 81), (some (78, true))⟩,
 ⟨(some 83), .len 1 (.t 82), (some (78, true))⟩,
 ⟨(some 84), .bin .leq (.t 80) (.t 83), (some (78, true))⟩,
 ⟨(some 85), .pick (.t 78) (.t 84) (.c (.b false)), none⟩,
 ⟨(some 2), .mv (.t 85), none⟩])
 .ret)
 .skip))
 (.seq (.reg [⟨(some 86), .fa 4 (.t 1), none⟩,
 ⟨(some 87), .ld false 1 (.t 86), none⟩,
 ⟨(some 88), .bin .eql (.t 87) (.c (.i .i64 0)), none⟩,
 ⟨(some 89), .mv (.t 88), none⟩,
 ⟨(some 90), .fa 4 (.t 1), (some (89, false))⟩,
 ⟨(some 91), .ld false 1 (.t 90), (some (89, false))⟩,
 ⟨(some 92), .bin .eql (.t 91) (.c (.i .i64 1)), (some (89, false))⟩,
 ⟨(some 93), .pick (.t 89) (.c (.b true)) (.t 92), none⟩,
 ⟨(some 94), .mv (.t 93), none⟩,
 ⟨(some 95), .fa 5 (.t 1), (some (94, true))⟩,
 ⟨(some 96), .ld false 1 (.t 95), (some (94, true))⟩,
 ⟨(some 97), .bin .eql (.t 96) (.c (.i .i64 0)), (some (94, true))⟩,
 ⟨(some 98), .pick (.t 94) (.t 97) (.c (.b false)), none⟩,
 ⟨(some 2), .mv (.t 98), none⟩])
 .ret))))) }
def c_slices_ContainsFunc_int_int : Fun := { cin := [(.sl 1 .id), .id], cout := [.id], ntmps := 9, keep := false, res := [(4, none)], body :=
 (.seq (.reg [⟨(some 4), .mv (.c (.b false)), none⟩])
 (.seq (.reg [⟨(some 5), .mv (.t 0), none⟩,
 ⟨(some 6), .mv (.t 1), none⟩,
 ⟨(some 7), .call f_slices_IndexFunc_int_int [(.t 5), (.t 6)], none⟩,
 ⟨(some 8), .bin .geq (.t 7) (.c (.i .i64 0)), none⟩,
 ⟨(some 4), .mv (.t 8), none⟩])
 .ret)) }
def c_pat_May_1 : Fun := { cin := [.id], cout := [.id], ntmps := 5, keep := false, res := [(2, none)], body :=
 (.seq (.reg [⟨(some 2), .mv (.c (.b false)), none⟩])
 (.seq (.reg [⟨(some 3), .mv (.t 0), none⟩,
 ⟨(some 4), .bin .neq (.t 3) (.c (.i .i64 1)), none⟩,
 ⟨(some 2), .mv (.t 4), none⟩])
 .ret)) }
def c_dirs_call_spot : Fun := { cin := [(.agg [.id, .id, (.sl 1 .id)]), .id, .id], cout := [.id], ntmps := 26, keep := false, res := [(6, none)], body :=
 (.seq (.reg [⟨(some 3), .box 112 3 (.t 0), none⟩,
 ⟨(some 6), .mv (.c (.i .i64 0)), none⟩])
 (.seq (.reg [⟨(some 11), .fa 0 (.t 3), none⟩,
 ⟨(some 12), .ld false 1 (.t 11), none⟩,
 ⟨(some 13), .mv (.t 1), none⟩,
 ⟨(some 14), .call f_walk_Spot [(.t 12), (.t 13)], none⟩,
 ⟨(some 10), .mv (.t 14), none⟩,
 ⟨(some 15), .ext (.t 10) 0, none⟩,
 ⟨(some 16), .ext (.t 10) 1, none⟩,
 ⟨(some 17), .ext (.t 10) 2, none⟩,
 ⟨(some 7), .mv (.t 15), none⟩,
 ⟨(some 8), .mv (.t 16), none⟩,
 ⟨(some 9), .mv (.t 17), none⟩])
 (.seq (.seq (.reg [⟨(some 18), .mv (.t 9), none⟩,
 ⟨(some 19), .bin .neq (.t 18) (.c (.i .i64 0)), none⟩])
 (.cond (.t 19)
 (.seq (.reg [⟨(some 20), .mv (.t 9), none⟩,
 ⟨(some 6), .mv (.t 20), none⟩])
 .ret)
 .skip))
 (.seq (.reg [⟨(some 21), .mv (.t 2), none⟩,
 ⟨(some 22), .fa 0 (.t 3), none⟩,
 ⟨(some 23), .ld false 1 (.t 22), none⟩,
 ⟨(some 24), .mv (.t 7), none⟩,
 ⟨(some 25), .callX (.t 21) [(.t 23), (.t 24)], none⟩,
 ⟨(some 6), .mv (.t 25), none⟩])
 .ret)))) }
def c_prim_MakeDir : Fun := { cin := [.id, (.sl 1 .id)], cout := [.id], ntmps := 9, keep := false, res := [(4, none)], body :=
 (.seq (.reg [⟨(some 4), .mv (.c (.i .i64 0)), none⟩])
 (.seq (.reg [⟨(some 5), .mv (.t 0), none⟩,
 ⟨(some 6), .mv (.t 1), none⟩,
 ⟨(some 7), .build [(.i .u8 0), (.s []), .nsl, .nsl] [(0, 1, (.c (.i .u8 2)))], none⟩,
 ⟨(some 8), .call f_prim_put [(.t 5), (.t 6), (.t 7)], none⟩,
 ⟨(some 4), .mv (.t 8), none⟩])
 .ret)) }
def c_prim_RemoveDir : Fun := { cin := [.id, (.sl 1 .id)], cout := [.id], ntmps := 9, keep := false, res := [(4, none)], body :=
 (.seq (.reg [⟨(some 2), .box 99 1 (.t 0), none⟩,
 ⟨(some 3), .box 22 1 (.t 1), none⟩,
 ⟨(some 4), .mv (.c (.i .i64 0)), none⟩])
 (.seq (.reg [⟨(some 5), .ld false 1 (.t 2), none⟩,
 ⟨(some 6), .ld false 1 (.t 3), none⟩,
 ⟨(some 7), .mkf f_prim_RemoveDir_1 [(.t 3), (.t 2)], none⟩,
 ⟨(some 8), .call f_prim_remove [(.t 5), (.t 6), (.t 7)], none⟩,
 ⟨(some 4), .mv (.t 8), none⟩])
 .ret)) }
def c_prim_Touch : Fun := { cin := [.id, (.sl 1 .id)], cout := [.id], ntmps := 10, keep := false, res := [(4, none)], body :=
 (.seq (.reg [⟨(some 2), .box 99 1 (.t 0), none⟩,
 ⟨(some 3), .box 22 1 (.t 1), none⟩,
 ⟨(some 4), .mv (.c (.i .i64 0)), none⟩])
 (.seq (.reg [⟨(some 5), .ld false 1 (.t 2), none⟩,
 ⟨(some 6), .mkf f_prim_Touch_1 [(.t 2), (.t 3)], none⟩,
 ⟨(some 7), .ld false 1 (.t 3), none⟩,
 ⟨(some 8), .bsl 1 [(.t 7)], none⟩,
 ⟨(some 9), .call f_prim_at [(.t 5), (.t 6), (.t 8)], none⟩,
 ⟨(some 4), .mv (.t 9), none⟩])
 .ret)) }
def c_prim_Unlink : Fun := { cin := [.id, (.sl 1 .id)], cout := [.id], ntmps := 8, keep := false, res := [(4, none)], body :=
 (.seq (.reg [⟨(some 4), .mv (.c (.i .i64 0)), none⟩])
 (.seq (.reg [⟨(some 5), .mv (.t 0), none⟩,
 ⟨(some 6), .mv (.t 1), none⟩,
 ⟨(some 7), .call f_prim_remove [(.t 5), (.t 6), (.c (.fn f_prim_Unlink_1 []))], none⟩,
 ⟨(some 4), .mv (.t 7), none⟩])
 .ret)) }
def c_prim_RemoveAll : Fun := { cin := [.id, (.sl 1 .id)], cout := [.id], ntmps := 9, keep := false, res := [(4, none)], body :=
 (.seq (.reg [⟨(some 3), .box 22 1 (.t 1), none⟩,
 ⟨(some 4), .mv (.c (.i .i64 0)), none⟩])
 (.seq (.reg [⟨(some 5), .mv (.t 0), none⟩,
 ⟨(some 6), .ld false 1 (.t 3), none⟩,
 ⟨(some 7), .mkf f_prim_RemoveAll_1 [(.t 3)], none⟩,
 ⟨(some 8), .call f_prim_remove [(.t 5), (.t 6), (.t 7)], none⟩,
 ⟨(some 4), .mv (.t 8), none⟩])
 .ret)) }
def c_strings_IndexAny : Fun := { cin := [.id, .id], cout := [.id], ntmps := 55, keep := false, res := [(4, none)], body :=
 (.seq (.reg [⟨(some 4), .mv (.c (.i .i64 0)), none⟩])
 (.seq (.seq (.reg [⟨(some 11), .mv (.t 1), none⟩,
 ⟨(some 12), .bin .eql (.t 11) (.c (.s [])), none⟩])
 (.cond (.t 12)
 (.seq (.reg [⟨(some 4), .mv (.c (.i .i64 (-1))), none⟩])
 .ret)
 .skip))
 (.seq (.seq (.reg [⟨(some 13), .mv (.t 1), none⟩,
 ⟨(some 14), .len 0 (.t 13), none⟩,
 ⟨(some 15), .bin .eql (.t 14) (.c (.i .i64 1)), none⟩])
 (.cond (.t 15)
 (.seq (.reg [⟨(some 16), .mv (.t 1), none⟩,
 ⟨(some 17), .ixS (.t 16) (.c (.i .i64 0)), none⟩,
 ⟨(some 18), .cvI .i32 (.t 17), none⟩,
 ⟨(some 5), .mv (.t 18), none⟩])
 (.seq (.seq (.reg [⟨(some 19), .mv (.t 5), none⟩,
 ⟨(some 20), .bin .geq (.t 19) (.c (.i .i32 128)), none⟩])
 (.cond (.t 20)
 (.reg [⟨(some 5), .mv (.c (.i .i32 65533)), none⟩])
 .skip))
 (.seq (.reg [⟨(some 21), .mv (.t 0), none⟩,
 ⟨(some 22), .mv (.t 5), none⟩,
 ⟨(some 23), .call f_strings_IndexRune [(.t 21), (.t 22)], none⟩,
 ⟨(some 4), .mv (.t 23), none⟩])
 .ret)))
 .skip))
 (.seq (.seq (.reg [⟨(some 24), .mv (.t 0), none⟩,
 ⟨(some 25), .len 0 (.t 24), none⟩,
 ⟨(some 26), .call f_strings_shouldUseASCIISet [(.t 25)], none⟩])
 (.cond (.t 26)
 (.seq (.reg [⟨(some 28), .mv (.t 1), none⟩,
 ⟨(some 29), .call f_strings_makeASCIISet [(.t 28)], none⟩,
 ⟨(some 27), .mv (.t 29), none⟩,
 ⟨(some 30), .ext (.t 27) 0, none⟩,
 ⟨(some 31), .ext (.t 27) 1, none⟩,
 ⟨(some 6), .alloc 242 [(.b false), (.b false), (.b false), (.b false), (.b false), (.b false), (.b false), (.b false), (.b false), (.b false), (.b false), (.b false), (.b false), (.b false), (.b false), (.b false), (.b false), (.b false), (.b false), (.b false), (.b false), (.b false), (.b false), (.b false), (.b false), (.b false), (.b false), (.b false), (.b false), (.b false), (.b false), (.b false), (.b false), (.b false), (.b false), (.b false), (.b false), (.b false), (.b false), (.b false), (.b false), (.b false), (.b false), (.b false), (.b false), (.b false), (.b false), (.b false), (.b false), (.b false), (.b false), (.b false), (.b false), (.b false), (.b false), (.b false), (.b false), (.b false), (.b false), (.b false), (.b false), (.b false), (.b false), (.b false), (.b false), (.b false), (.b false), (.b false), (.b false), (.b false), (.b false), (.b false), (.b false), (.b false), (.b false), (.b false), (.b false), (.b false), (.b false), (.b false), (.b false), (.b false), (.b false), (.b false), (.b false), (.b false), (.b false), (.b false), (.b false), (.b false), (.b false), (.b false), (.b false), (.b false), (.b false), (.b false), (.b false), (.b false), (.b false), (.b false), (.b false), (.b false), (.b false), (.b false), (.b false), (.b false), (.b false), (.b false), (.b false), (.b false), (.b false), (.b false), (.b false), (.b false), (.b false), (.b false), (.b false), (.b false), (.b false), (.b false), (.b false), (.b false), (.b false), (.b false), (.b false), (.b false), (.b false), (.b false), (.b false), (.b false), (.b false), (.b false), (.b false), (.b false), (.b false), (.b false), (.b false), (.b false), (.b false), (.b false), (.b false), (.b false), (.b false), (.b false), (.b false), (.b false), (.b false), (.b false), (.b false), (.b false), (.b false), (.b false), (.b false), (.b false), (.b false), (.b false), (.b false), (.b false), (.b false), (.b false), (.b false), (.b false), (.b false), (.b false), (.b false), (.b false), (.b false), (.b false), (.b false), (.b false), (.b false), (.b false), (.b false), (.b false), (.b false), (.b false), (.b false), (.b false), (.b false), (.b false), (.b false), (.b false), (.b false), (.b false), (.b false), (.b false), (.b false), (.b false), (.b false), (.b false), (.b false), (.b false), (.b false), (.b false), (.b false), (.b false), (.b false), (.b false), (.b false), (.b false), (.b false), (.b false), (.b false), (.b false), (.b false), (.b false), (.b false), (.b false), (.b false), (.b false), (.b false), (.b false), (.b false), (.b false), (.b false), (.b false), (.b false), (.b false), (.b false), (.b false), (.b false), (.b false), (.b false), (.b false), (.b false), (.b false), (.b false), (.b false), (.b false), (.b false), (.b false), (.b false), (.b false), (.b false), (.b false), (.b false), (.b false), (.b false), (.b false), (.b false), (.b false), (.b false), (.b false), (.b false), (.b false), (.b false), (.b false), (.b false), (.b false), (.b false), (.b false), (.b false), (.b false), (.b false), (.b false), (.b false)], none⟩,
 ⟨none, .st 256 (.t 6) (.t 30), none⟩,
 ⟨(some 7), .mv (.t 31), none⟩])
 (.seq (.reg [⟨(some 32), .mv (.t 7), none⟩])
 (.cond (.t 32)
 (.seq (.seq (.reg [⟨(some 8), .mv (.c (.i .i64 0)), none⟩])
 (.blk 0 (.loop (.seq (.seq (.reg [⟨(some 33), .mv (.t 8), none⟩,
 ⟨(some 34), .mv (.t 0), none⟩,
 ⟨(some 35), .len 0 (.t 34), none⟩,
 ⟨(some 36), .bin .lss (.t 33) (.t 35), none⟩])
 (.cond (.t 36)
 .skip
 (.exit 0)))
 (.seq (.blk 1 (.seq (.reg [⟨(some 39), .mv (.t 0), none⟩,
 ⟨(some 40), .mv (.t 8), none⟩,
 ⟨(some 41), .ixS (.t 39) (.t 40), none⟩,
 ⟨(some 42), .call f_strings_asciiSet_contains [(.t 6), (.t 41)], none⟩])
 (.cond (.t 42)
 (.seq (.reg [⟨(some 43), .mv (.t 8), none⟩,
 ⟨(some 4), .mv (.t 43), none⟩])
 .ret)
 .skip)))
 (.reg [⟨(some 37), .mv (.t 8), none⟩,
 ⟨(some 38), .bin .add (.t 37) (.c (.i .i64 1)), none⟩,
 ⟨(some 8), .mv (.t 38), none⟩]))))))
 (.seq (.reg [⟨(some 4), .mv (.c (.i .i64 (-1))), none⟩])
 .ret))
 .skip)))
 .skip))
 (.seq (.seq (.reg [⟨(some 44), .mv (.t 0), none⟩,
 ⟨(some 45), .siter (.t 44), none⟩])
 (.blk 2 (.loop (.seq (.reg [⟨(some 46), .snext (.t 45), none⟩,
 ⟨(some 47), .ext (.t 46) 0, none⟩])
 (.seq (.cond (.t 47)
 .skip
 (.exit 2))
 (.blk 3 (.seq (.reg [⟨(some 48), .ext (.t 46) 1, none⟩,
 ⟨(some 49), .ext (.t 46) 2, none⟩,
 ⟨(some 9), .mv (.t 48), none⟩,
 ⟨(some 10), .mv (.t 49), none⟩])
 (.seq (.reg [⟨(some 50), .mv (.t 1), none⟩,
 ⟨(some 51), .mv (.t 10), none⟩,
 ⟨(some 52), .call f_strings_IndexRune [(.t 50), (.t 51)], none⟩,
 ⟨(some 53), .bin .geq (.t 52) (.c (.i .i64 0)), none⟩])
 (.cond (.t 53)
 (.seq (.reg [⟨(some 54), .mv (.t 9), none⟩,
 ⟨(some 4), .mv (.t 54), none⟩])
 .ret)
 .skip)))))))))
 (.seq (.reg [⟨(some 4), .mv (.c (.i .i64 (-1))), none⟩])
 .ret)))))) }
def c_slices_Collect_string : Fun := { cin := [.id], cout := [(.sl 1 .id)], ntmps := 5, keep := false, res := [(2, none)], body :=
 (.seq (.reg [⟨(some 2), .mv (.c .nsl), none⟩])
 (.seq (.reg [⟨(some 3), .mv (.t 0), none⟩,
 ⟨(some 4), .call f_slices_AppendSeq_string_string [(.c .nsl), (.t 3)], none⟩,
 ⟨(some 2), .mv (.t 4), none⟩])
 .ret)) }
def c_walk_walker_name : Fun := { cin := [.id, .id], cout := [.id, .id, .id], ntmps := 81, keep := false, res := [(4, none), (5, none), (6, none)], body :=
 (.seq (.reg [⟨(some 4), .mv (.c (.i .u8 0)), none⟩,
 ⟨(some 5), .mv (.c (.b false)), none⟩,
 ⟨(some 6), .mv (.c (.i .i64 0)), none⟩])
 (.seq (.reg [⟨(some 10), .mv (.t 0), none⟩,
 ⟨(some 11), .mv (.t 1), none⟩,
 ⟨(some 12), .call f_walk_walker_below [(.t 10), (.t 11)], none⟩,
 ⟨(some 7), .mv (.t 12), none⟩])
 (.seq (.reg [⟨(some 13), .mv (.t 0), none⟩,
 ⟨(some 14), .nck (.t 13), none⟩,
 ⟨(some 15), .fa 0 (.t 14), none⟩,
 ⟨(some 16), .ld false 1 (.t 15), none⟩,
 ⟨(some 17), .mv (.t 7), none⟩,
 ⟨(some 18), .inv [(17, f_internal_abi_Type_Kind), (29, f_ftree_Tree_Kind), (216, f_sym_Tree_Kind)] (.t 16) [(.t 17)], none⟩,
 ⟨(some 8), .mv (.t 18), none⟩])
 (.seq (.reg [⟨(some 19), .mv (.t 0), none⟩,
 ⟨(some 20), .nck (.t 19), none⟩,
 ⟨(some 21), .fa 2 (.t 20), none⟩,
 ⟨(some 22), .ld false 1 (.t 21), none⟩,
 ⟨(some 23), .len 1 (.t 22), none⟩,
 ⟨(some 24), .bin .eql (.t 23) (.c (.i .i64 0)), none⟩,
 ⟨(some 9), .mv (.t 24), none⟩])
 (.seq (.blk 0 (.seq (.reg [⟨(some 26), .mv (.t 8), none⟩,
 ⟨(some 27), .bin .eql (.t 26) (.c (.i .u8 3)), none⟩,
 ⟨(some 28), .mv (.t 27), none⟩,
 ⟨(some 29), .mv (.t 9), (some (28, true))⟩,
 ⟨(some 30), .un .not (.t 29), (some (28, true))⟩,
 ⟨(some 31), .mv (.t 30), (some (28, true))⟩,
 ⟨(some 32), .mv (.t 0), (some (31, false))⟩,
 ⟨(some 33), .nck (.t 32), (some (31, false))⟩,
 ⟨(some 34), .fa 3 (.t 33), (some (31, false))⟩,
 ⟨(some 35), .ld false 1 (.t 34), (some (31, false))⟩,
 ⟨(some 36), .pick (.t 31) (.c (.b true)) (.t 35), (some (28, true))⟩,
 ⟨(some 37), .mv (.t 36), (some (28, true))⟩,
 ⟨(some 38), .mv (.t 0), (some (37, false))⟩,
 ⟨(some 39), .nck (.t 38), (some (37, false))⟩,
 ⟨(some 40), .fa 4 (.t 39), (some (37, false))⟩,
 ⟨(some 41), .ld false 1 (.t 40), (some (37, false))⟩,
 ⟨(some 42), .pick (.t 37) (.c (.b true)) (.t 41), (some (28, true))⟩,
 ⟨(some 43), .pick (.t 28) (.t 42) (.c (.b false)), none⟩,
 ⟨(some 25), .mv (.t 43), none⟩])
 (.cond (.t 25)
 (.seq (.reg [⟨(some 44), .mv (.t 0), none⟩,
 ⟨(some 45), .mv (.t 7), none⟩,
 ⟨(some 46), .call f_walk_walker_follow [(.t 44), (.t 45)], none⟩,
 ⟨(some 4), .mv (.c (.i .u8 0)), none⟩,
 ⟨(some 5), .mv (.c (.b false)), none⟩,
 ⟨(some 6), .mv (.t 46), none⟩])
 .ret)
 (.seq (.reg [⟨(some 48), .mv (.t 8), none⟩,
 ⟨(some 49), .bin .eql (.t 48) (.c (.i .u8 2)), none⟩,
 ⟨(some 47), .mv (.t 49), none⟩])
 (.cond (.t 47)
 (.seq (.reg [⟨(some 50), .mv (.t 0), none⟩,
 ⟨(some 51), .mv (.t 7), none⟩,
 ⟨(some 52), .nck (.t 50), none⟩,
 ⟨(some 53), .fa 1 (.t 52), none⟩,
 ⟨none, .st 1 (.t 53) (.t 51), none⟩])
 (.seq (.reg [⟨(some 54), .mv (.t 8), none⟩,
 ⟨(some 55), .mv (.t 9), none⟩,
 ⟨(some 4), .mv (.t 54), none⟩,
 ⟨(some 5), .mv (.t 55), none⟩,
 ⟨(some 6), .mv (.c (.i .i64 0)), none⟩])
 .ret))
 (.seq (.reg [⟨(some 57), .mv (.t 8), none⟩,
 ⟨(some 58), .bin .eql (.t 57) (.c (.i .u8 1)), none⟩,
 ⟨(some 59), .mv (.t 58), none⟩,
 ⟨(some 60), .mv (.t 9), (some (59, true))⟩,
 ⟨(some 61), .un .not (.t 60), (some (59, true))⟩,
 ⟨(some 62), .mv (.t 61), (some (59, true))⟩,
 ⟨(some 63), .mv (.t 0), (some (62, false))⟩,
 ⟨(some 64), .nck (.t 63), (some (62, false))⟩,
 ⟨(some 65), .fa 3 (.t 64), (some (62, false))⟩,
 ⟨(some 66), .ld false 1 (.t 65), (some (62, false))⟩,
 ⟨(some 67), .pick (.t 62) (.c (.b true)) (.t 66), (some (59, true))⟩,
 ⟨(some 68), .pick (.t 59) (.t 67) (.c (.b false)), none⟩,
 ⟨(some 56), .mv (.t 68), none⟩])
 (.cond (.t 56)
 (.seq (.reg [⟨(some 4), .mv (.c (.i .u8 0)), none⟩,
 ⟨(some 5), .mv (.c (.b false)), none⟩,
 ⟨(some 6), .mv (.c (.i .i64 55)), none⟩])
 .ret)
 (.seq (.reg [⟨(some 70), .mv (.t 8), none⟩,
 ⟨(some 71), .bin .eql (.t 70) (.c (.i .u8 0)), none⟩,
 ⟨(some 72), .mv (.t 71), none⟩,
 ⟨(some 73), .mv (.t 9), (some (72, true))⟩,
 ⟨(some 74), .un .not (.t 73), (some (72, true))⟩,
 ⟨(some 75), .pick (.t 72) (.t 74) (.c (.b false)), none⟩,
 ⟨(some 69), .mv (.t 75), none⟩])
 (.cond (.t 69)
 (.seq (.reg [⟨(some 4), .mv (.c (.i .u8 0)), none⟩,
 ⟨(some 5), .mv (.c (.b false)), none⟩,
 ⟨(some 6), .mv (.c (.i .i64 5)), none⟩])
 .ret)
 .skip)))))))))
 (.seq (.reg [⟨(some 76), .mv (.t 0), none⟩,
 ⟨(some 77), .mv (.t 7), none⟩,
 ⟨(some 78), .nck (.t 76), none⟩,
 ⟨(some 79), .fa 1 (.t 78), none⟩,
 ⟨none, .st 1 (.t 79) (.t 77), none⟩])
 (.seq (.reg [⟨(some 80), .mv (.t 8), none⟩,
 ⟨(some 4), .mv (.t 80), none⟩,
 ⟨(some 5), .mv (.c (.b true)), none⟩,
 ⟨(some 6), .mv (.c (.i .i64 0)), none⟩])
 .ret))))))) }
def c_internal_stringslite_Index : Fun := { cin := [.id, .id], cout := [.id], ntmps := 143, keep := false, res := [(4, none)], body :=
 (.seq (.reg [⟨(some 4), .mv (.c (.i .i64 0)), none⟩])
 (.seq (.reg [⟨(some 14), .mv (.t 1), none⟩,
 ⟨(some 15), .len 0 (.t 14), none⟩,
 ⟨(some 5), .mv (.t 15), none⟩])
 (.seq (.blk 0 (.seq (.reg [⟨(some 17), .mv (.t 5), none⟩,
 ⟨(some 18), .bin .eql (.t 17) (.c (.i .i64 0)), none⟩,
 ⟨(some 19), .mv (.t 18), none⟩,
 ⟨(some 20), .mv (.t 1), (some (19, false))⟩,
 ⟨(some 21), .mv (.t 0), (some (19, false))⟩,
 ⟨(some 22), .bin .eql (.t 20) (.t 21), (some (19, false))⟩,
 ⟨(some 23), .pick (.t 19) (.c (.b true)) (.t 22), none⟩,
 ⟨(some 16), .mv (.t 23), none⟩])
 (.cond (.t 16)
 (.seq (.reg [⟨(some 4), .mv (.c (.i .i64 0)), none⟩])
 .ret)
 (.seq (.reg [⟨(some 25), .mv (.t 5), none⟩,
 ⟨(some 26), .bin .eql (.t 25) (.c (.i .i64 1)), none⟩,
 ⟨(some 24), .mv (.t 26), none⟩])
 (.cond (.t 24)
 (.seq (.reg [⟨(some 27), .mv (.t 0), none⟩,
 ⟨(some 28), .mv (.t 1), none⟩,
 ⟨(some 29), .ixS (.t 28) (.c (.i .i64 0)), none⟩,
 ⟨(some 30), .call f_internal_stringslite_IndexByte [(.t 27), (.t 29)], none⟩,
 ⟨(some 4), .mv (.t 30), none⟩])
 .ret)
 (.seq (.reg [⟨(some 32), .mv (.t 5), none⟩,
 ⟨(some 33), .mv (.t 0), none⟩,
 ⟨(some 34), .len 0 (.t 33), none⟩,
 ⟨(some 35), .bin .geq (.t 32) (.t 34), none⟩,
 ⟨(some 31), .mv (.t 35), none⟩])
 (.cond (.t 31)
 (.seq (.reg [⟨(some 4), .mv (.c (.i .i64 (-1))), none⟩])
 .ret)
 (.seq (.reg [⟨(some 37), .mv (.t 5), none⟩,
 ⟨(some 38), .bad, none⟩,
 ⟨(some 39), .bin .leq (.t 37) (.t 38), none⟩,
 ⟨(some 40), .mv (.t 39), none⟩,
 ⟨(some 41), .mv (.t 0), (some (40, true))⟩,
 ⟨(some 42), .len 0 (.t 41), (some (40, true))⟩,
 ⟨(some 43), .bin .leq (.t 42) (.c (.i .i64 64)), (some (40, true))⟩,
 ⟨(some 44), .pick (.t 40) (.t 43) (.c (.b false)), none⟩,
 ⟨(some 36), .mv (.t 44), none⟩])
 (.cond (.t 36)
 (.seq (.reg [⟨(some 45), .mv (.t 0), none⟩,
 ⟨(some 46), .mv (.t 1), none⟩,
 ⟨(some 47), .bad, none⟩,
 ⟨(some 4), .mv (.t 47), none⟩])
 .ret)
 .skip)))))))))
 (.seq (.reg [⟨(some 48), .mv (.t 1), none⟩,
 ⟨(some 49), .ixS (.t 48) (.c (.i .i64 0)), none⟩,
 ⟨(some 6), .mv (.t 49), none⟩])
 (.seq (.reg [⟨(some 50), .mv (.t 1), none⟩,
 ⟨(some 51), .ixS (.t 50) (.c (.i .i64 1)), none⟩,
 ⟨(some 7), .mv (.t 51), none⟩])
 (.seq (.reg [⟨(some 8), .mv (.c (.i .i64 0)), none⟩])
 (.seq (.reg [⟨(some 52), .mv (.t 0), none⟩,
 ⟨(some 53), .len 0 (.t 52), none⟩,
 ⟨(some 54), .mv (.t 5), none⟩,
 ⟨(some 55), .bin .sub (.t 53) (.t 54), none⟩,
 ⟨(some 56), .bin .add (.t 55) (.c (.i .i64 1)), none⟩,
 ⟨(some 9), .mv (.t 56), none⟩])
 (.seq (.reg [⟨(some 10), .mv (.c (.i .i64 0)), none⟩])
 (.seq (.blk 1 (.loop (.seq (.seq (.reg [⟨(some 57), .mv (.t 8), none⟩,
 ⟨(some 58), .mv (.t 9), none⟩,
 ⟨(some 59), .bin .lss (.t 57) (.t 58), none⟩])
 (.cond (.t 59)
 .skip
 (.exit 1)))
 (.blk 2 (.seq (.seq (.reg [⟨(some 60), .mv (.t 0), none⟩,
 ⟨(some 61), .mv (.t 8), none⟩,
 ⟨(some 62), .ixS (.t 60) (.t 61), none⟩,
 ⟨(some 63), .mv (.t 6), none⟩,
 ⟨(some 64), .bin .neq (.t 62) (.t 63), none⟩])
 (.cond (.t 64)
 (.seq (.reg [⟨(some 65), .mv (.t 0), none⟩,
 ⟨(some 66), .mv (.t 8), none⟩,
 ⟨(some 67), .bin .add (.t 66) (.c (.i .i64 1)), none⟩,
 ⟨(some 68), .mv (.t 9), none⟩,
 ⟨(some 69), .slS (.t 65) (some (.t 67)) (some (.t 68)), none⟩,
 ⟨(some 70), .mv (.t 6), none⟩,
 ⟨(some 71), .call f_internal_stringslite_IndexByte [(.t 69), (.t 70)], none⟩,
 ⟨(some 11), .mv (.t 71), none⟩])
 (.seq (.seq (.reg [⟨(some 72), .mv (.t 11), none⟩,
 ⟨(some 73), .bin .lss (.t 72) (.c (.i .i64 0)), none⟩])
 (.cond (.t 73)
 (.seq (.reg [⟨(some 4), .mv (.c (.i .i64 (-1))), none⟩])
 .ret)
 .skip))
 (.reg [⟨(some 74), .mv (.t 8), none⟩,
 ⟨(some 75), .mv (.t 11), none⟩,
 ⟨(some 76), .bin .add (.t 75) (.c (.i .i64 1)), none⟩,
 ⟨(some 77), .bin .add (.t 74) (.t 76), none⟩,
 ⟨(some 8), .mv (.t 77), none⟩])))
 .skip))
 (.seq (.seq (.reg [⟨(some 78), .mv (.t 0), none⟩,
 ⟨(some 79), .mv (.t 8), none⟩,
 ⟨(some 80), .bin .add (.t 79) (.c (.i .i64 1)), none⟩,
 ⟨(some 81), .ixS (.t 78) (.t 80), none⟩,
 ⟨(some 82), .mv (.t 7), none⟩,
 ⟨(some 83), .bin .eql (.t 81) (.t 82), none⟩,
 ⟨(some 84), .mv (.t 83), none⟩,
 ⟨(some 85), .mv (.t 0), (some (84, true))⟩,
 ⟨(some 86), .mv (.t 8), (some (84, true))⟩,
 ⟨(some 87), .mv (.t 8), (some (84, true))⟩,
 ⟨(some 88), .mv (.t 5), (some (84, true))⟩,
 ⟨(some 89), .bin .add (.t 87) (.t 88), (some (84, true))⟩,
 ⟨(some 90), .slS (.t 85) (some (.t 86)) (some (.t 89)), (some (84, true))⟩,
 ⟨(some 91), .mv (.t 1), (some (84, true))⟩,
 ⟨(some 92), .bin .eql (.t 90) (.t 91), (some (84, true))⟩,
 ⟨(some 93), .pick (.t 84) (.t 92) (.c (.b false)), none⟩])
 (.cond (.t 93)
 (.seq (.reg [⟨(some 94), .mv (.t 8), none⟩,
 ⟨(some 4), .mv (.t 94), none⟩])
 .ret)
 .skip))
 (.seq (.reg [⟨(some 95), .mv (.t 8), none⟩,
 ⟨(some 96), .bin .add (.t 95) (.c (.i .i64 1)), none⟩,
 ⟨(some 8), .mv (.t 96), none⟩])
 (.seq (.reg [⟨(some 97), .mv (.t 10), none⟩,
 ⟨(some 98), .bin .add (.t 97) (.c (.i .i64 1)), none⟩,
 ⟨(some 10), .mv (.t 98), none⟩])
 (.seq (.reg [⟨(some 99), .mv (.t 5), none⟩,
 ⟨(some 100), .bad, none⟩,
 ⟨(some 101), .bin .leq (.t 99) (.t 100), none⟩,
 ⟨(some 102), .mv (.t 101), none⟩,
 ⟨(some 103), .mv (.t 10), (some (102, true))⟩,
 ⟨(some 104), .mv (.t 8), (some (102, true))⟩,
 ⟨(some 105), .call f_internal_bytealg_Cutover [(.t 104)], (some (102, true))⟩,
 ⟨(some 106), .bin .gtr (.t 103) (.t 105), (some (102, true))⟩,
 ⟨(some 107), .pick (.t 102) (.t 106) (.c (.b false)), none⟩])
 (.cond (.t 107)
 (.seq (.reg [⟨(some 108), .mv (.t 0), none⟩,
 ⟨(some 109), .mv (.t 8), none⟩,
 ⟨(some 110), .slS (.t 108) (some (.t 109)) none, none⟩,
 ⟨(some 111), .mv (.t 1), none⟩,
 ⟨(some 112), .bad, none⟩,
 ⟨(some 12), .mv (.t 112), none⟩])
 (.seq (.seq (.reg [⟨(some 113), .mv (.t 12), none⟩,
 ⟨(some 114), .bin .geq (.t 113) (.c (.i .i64 0)), none⟩])
 (.cond (.t 114)
 (.seq (.reg [⟨(some 115), .mv (.t 12), none⟩,
 ⟨(some 116), .mv (.t 8), none⟩,
 ⟨(some 117), .bin .add (.t 115) (.t 116), none⟩,
 ⟨(some 4), .mv (.t 117), none⟩])
 .ret)
 .skip))
 (.seq (.reg [⟨(some 4), .mv (.c (.i .i64 (-1))), none⟩])
 .ret)))
 (.seq (.reg [⟨(some 118), .mv (.t 5), none⟩,
 ⟨(some 119), .bad, none⟩,
 ⟨(some 120), .bin .gtr (.t 118) (.t 119), none⟩,
 ⟨(some 121), .mv (.t 120), none⟩,
 ⟨(some 122), .mv (.t 10), (some (121, true))⟩,
 ⟨(some 123), .mv (.t 8), (some (121, true))⟩,
 ⟨(some 124), .bin .shr (.t 123) (.c (.i .u64 4)), (some (121, true))⟩,
 ⟨(some 125), .bin .add (.c (.i .i64 4)) (.t 124), (some (121, true))⟩,
 ⟨(some 126), .bin .geq (.t 122) (.t 125), (some (121, true))⟩,
 ⟨(some 127), .pick (.t 121) (.t 126) (.c (.b false)), none⟩,
 ⟨(some 128), .mv (.t 127), none⟩,
 ⟨(some 129), .mv (.t 8), (some (128, true))⟩,
 ⟨(some 130), .mv (.t 9), (some (128, true))⟩,
 ⟨(some 131), .bin .lss (.t 129) (.t 130), (some (128, true))⟩,
 ⟨(some 132), .pick (.t 128) (.t 131) (.c (.b false)), none⟩])
 (.cond (.t 132)
 (.seq (.reg [⟨(some 133), .mv (.t 0), none⟩,
 ⟨(some 134), .mv (.t 8), none⟩,
 ⟨(some 135), .slS (.t 133) (some (.t 134)) none, none⟩,
 ⟨(some 136), .mv (.t 1), none⟩,
 ⟨(some 137), .call f_internal_bytealg_IndexRabinKarp_string [(.t 135), (.t 136)], none⟩,
 ⟨(some 13), .mv (.t 137), none⟩])
 (.seq (.seq (.reg [⟨(some 138), .mv (.t 13), none⟩,
 ⟨(some 139), .bin .lss (.t 138) (.c (.i .i64 0)), none⟩])
 (.cond (.t 139)
 (.seq (.reg [⟨(some 4), .mv (.c (.i .i64 (-1))), none⟩])
 .ret)
 .skip))
 (.seq (.reg [⟨(some 140), .mv (.t 8), none⟩,
 ⟨(some 141), .mv (.t 13), none⟩,
 ⟨(some 142), .bin .add (.t 140) (.t 141), none⟩,
 ⟨(some 4), .mv (.t 142), none⟩])
 .ret)))
 .skip))))))))))))
 (.seq (.reg [⟨(some 4), .mv (.c (.i .i64 (-1))), none⟩])
 .ret)))))))))) }
def c_strings_splitSeq : Fun := { cin := [.id, .id, .id], cout := [.id], ntmps := 8, keep := false, res := [(6, none)], body :=
 (.seq (.reg [⟨(some 3), .box 9 1 (.t 0), none⟩,
 ⟨(some 4), .box 9 1 (.t 1), none⟩,
 ⟨(some 5), .box 3 1 (.t 2), none⟩,
 ⟨(some 6), .mv (.c .nf), none⟩])
 (.seq (.reg [⟨(some 7), .mkf f_strings_splitSeq_1 [(.t 4), (.t 3), (.t 5)], none⟩,
 ⟨(some 6), .mv (.t 7), none⟩])
 .ret)) }
def c_strings_Builder_copyCheck : Fun := { cin := [.id], cout := [], ntmps := 20, keep := false, res := [], body :=
 (.seq (.reg [⟨(some 2), .mv (.t 0), none⟩,
 ⟨(some 3), .nck (.t 2), none⟩,
 ⟨(some 4), .fa 0 (.t 3), none⟩,
 ⟨(some 5), .ld false 1 (.t 4), none⟩,
 ⟨(some 6), .eq .ptr false (.t 5) (.c .np), none⟩])
 (.cond (.t 6)
 (.reg [⟨(some 7), .mv (.t 0), none⟩,
 ⟨(some 8), .mv (.t 0), none⟩,
 ⟨(some 9), .cvU 187 2 (.t 8), none⟩,
 ⟨(some 10), .xtn 1 [(.t 9)], none⟩,
 ⟨(some 11), .cvU 187 2 (.t 10), none⟩,
 ⟨(some 12), .nck (.t 7), none⟩,
 ⟨(some 13), .fa 0 (.t 12), none⟩,
 ⟨none, .st 1 (.t 13) (.t 11), none⟩])
 (.seq (.reg [⟨(some 14), .mv (.t 0), none⟩,
 ⟨(some 15), .nck (.t 14), none⟩,
 ⟨(some 16), .fa 0 (.t 15), none⟩,
 ⟨(some 17), .ld false 1 (.t 16), none⟩,
 ⟨(some 18), .mv (.t 0), none⟩,
 ⟨(some 19), .eq .ptr true (.t 17) (.t 18), none⟩])
 (.cond (.t 19)
 .bad
 .skip)))) }
def c_strings_makeASCIISet : Fun := { cin := [.id], cout := [(.agg [.id, .id, .id, .id, .id, .id, .id, .id, .id, .id, .id, .id, .id, .id, .id, .id, .id, .id, .id, .id, .id, .id, .id, .id, .id, .id, .id, .id, .id, .id, .id, .id, .id, .id, .id, .id, .id, .id, .id, .id, .id, .id, .id, .id, .id, .id, .id, .id, .id, .id, .id, .id, .id, .id, .id, .id, .id, .id, .id, .id, .id, .id, .id, .id, .id, .id, .id, .id, .id, .id, .id, .id, .id, .id, .id, .id, .id, .id, .id, .id, .id, .id, .id, .id, .id, .id, .id, .id, .id, .id, .id, .id, .id, .id, .id, .id, .id, .id, .id, .id, .id, .id, .id, .id, .id, .id, .id, .id, .id, .id, .id, .id, .id, .id, .id, .id, .id, .id, .id, .id, .id, .id, .id, .id, .id, .id, .id, .id, .id, .id, .id, .id, .id, .id, .id, .id, .id, .id, .id, .id, .id, .id, .id, .id, .id, .id, .id, .id, .id, .id, .id, .id, .id, .id, .id, .id, .id, .id, .id, .id, .id, .id, .id, .id, .id, .id, .id, .id, .id, .id, .id, .id, .id, .id, .id, .id, .id, .id, .id, .id, .id, .id, .id, .id, .id, .id, .id, .id, .id, .id, .id, .id, .id, .id, .id, .id, .id, .id, .id, .id, .id, .id, .id, .id, .id, .id, .id, .id, .id, .id, .id, .id, .id, .id, .id, .id, .id, .id, .id, .id, .id, .id, .id, .id, .id, .id, .id, .id, .id, .id, .id, .id, .id, .id, .id, .id, .id, .id, .id, .id, .id, .id, .id, .id, .id, .id, .id, .id, .id, .id, .id, .id, .id, .id, .id, .id]), .id], ntmps := 21, keep := false, res := [(2, some (true, 256)), (3, none)], body :=
 (.seq (.reg [⟨(some 2), .alloc 242 [(.b false), (.b false), (.b false), (.b false), (.b false), (.b false), (.b false), (.b false), (.b false), (.b false), (.b false), (.b false), (.b false), (.b false), (.b false), (.b false), (.b false), (.b false), (.b false), (.b false), (.b false), (.b false), (.b false), (.b false), (.b false), (.b false), (.b false), (.b false), (.b false), (.b false), (.b false), (.b false), (.b false), (.b false), (.b false), (.b false), (.b false), (.b false), (.b false), (.b false), (.b false), (.b false), (.b false), (.b false), (.b false), (.b false), (.b false), (.b false), (.b false), (.b false), (.b false), (.b false), (.b false), (.b false), (.b false), (.b false), (.b false), (.b false), (.b false), (.b false), (.b false), (.b false), (.b false), (.b false), (.b false), (.b false), (.b false), (.b false), (.b false), (.b false), (.b false), (.b false), (.b false), (.b false), (.b false), (.b false), (.b false), (.b false), (.b false), (.b false), (.b false), (.b false), (.b false), (.b false), (.b false), (.b false), (.b false), (.b false), (.b false), (.b false), (.b false), (.b false), (.b false), (.b false), (.b false), (.b false), (.b false), (.b false), (.b false), (.b false), (.b false), (.b false), (.b false), (.b false), (.b false), (.b false), (.b false), (.b false), (.b false), (.b false), (.b false), (.b false), (.b false), (.b false), (.b false), (.b false), (.b false), (.b false), (.b false), (.b false), (.b false), (.b false), (.b false), (.b false), (.b false), (.b false), (.b false), (.b false), (.b false), (.b false), (.b false), (.b false), (.b false), (.b false), (.b false), (.b false), (.b false), (.b false), (.b false), (.b false), (.b false), (.b false), (.b false), (.b false), (.b false), (.b false), (.b false), (.b false), (.b false), (.b false), (.b false), (.b false), (.b false), (.b false), (.b false), (.b false), (.b false), (.b false), (.b false), (.b false), (.b false), (.b false), (.b false), (.b false), (.b false), (.b false), (.b false), (.b false), (.b false), (.b false), (.b false), (.b false), (.b false), (.b false), (.b false), (.b false), (.b false), (.b false), (.b false), (.b false), (.b false), (.b false), (.b false), (.b false), (.b false), (.b false), (.b false), (.b false), (.b false), (.b false), (.b false), (.b false), (.b false), (.b false), (.b false), (.b false), (.b false), (.b false), (.b false), (.b false), (.b false), (.b false), (.b false), (.b false), (.b false), (.b false), (.b false), (.b false), (.b false), (.b false), (.b false), (.b false), (.b false), (.b false), (.b false), (.b false), (.b false), (.b false), (.b false), (.b false), (.b false), (.b false), (.b false), (.b false), (.b false), (.b false), (.b false), (.b false), (.b false), (.b false), (.b false), (.b false), (.b false), (.b false), (.b false), (.b false), (.b false), (.b false), (.b false), (.b false), (.b false), (.b false), (.b false), (.b false), (.b false), (.b false), (.b false), (.b false), (.b false), (.b false), (.b false), (.b false), (.b false), (.b false), (.b false), (.b false)], none⟩,
 ⟨(some 3), .mv (.c (.b false)), none⟩])
 (.seq (.seq (.reg [⟨(some 4), .mv (.c (.i .i64 0)), none⟩])
 (.blk 0 (.loop (.seq (.seq (.reg [⟨(some 6), .mv (.t 4), none⟩,
 ⟨(some 7), .mv (.t 0), none⟩,
 ⟨(some 8), .len 0 (.t 7), none⟩,
 ⟨(some 9), .bin .lss (.t 6) (.t 8), none⟩])
 (.cond (.t 9)
 .skip
 (.exit 0)))
 (.seq (.blk 1 (.seq (.reg [⟨(some 12), .mv (.t 0), none⟩,
 ⟨(some 13), .mv (.t 4), none⟩,
 ⟨(some 14), .ixS (.t 12) (.t 13), none⟩,
 ⟨(some 5), .mv (.t 14), none⟩])
 (.seq (.seq (.reg [⟨(some 15), .mv (.t 5), none⟩,
 ⟨(some 16), .bin .geq (.t 15) (.c (.i .u8 128)), none⟩])
 (.cond (.t 16)
 (.seq (.reg [⟨(some 17), .ld true 256 (.t 2), none⟩,
 ⟨none, .st 256 (.t 2) (.t 17), none⟩,
 ⟨(some 3), .mv (.c (.b false)), none⟩])
 .ret)
 .skip))
 (.reg [⟨(some 18), .mv (.t 5), none⟩,
 ⟨(some 19), .iaA 256 1 (.t 2) (.t 18), none⟩,
 ⟨none, .st 1 (.t 19) (.c (.b true)), none⟩]))))
 (.reg [⟨(some 10), .mv (.t 4), none⟩,
 ⟨(some 11), .bin .add (.t 10) (.c (.i .i64 1)), none⟩,
 ⟨(some 4), .mv (.t 11), none⟩]))))))
 (.seq (.reg [⟨(some 20), .ld true 256 (.t 2), none⟩,
 ⟨none, .st 256 (.t 2) (.t 20), none⟩,
 ⟨(some 3), .mv (.c (.b true)), none⟩])
 .ret))) }
def c_internal_bytealg_LastIndexByteString : Fun := { cin := [.id, .id], cout := [.id], ntmps := 19, keep := false, res := [(4, none)], body :=
 (.seq (.reg [⟨(some 4), .mv (.c (.i .i64 0)), none⟩])
 (.seq (.seq (.reg [⟨(some 6), .mv (.t 0), none⟩,
 ⟨(some 7), .len 0 (.t 6), none⟩,
 ⟨(some 8), .bin .sub (.t 7) (.c (.i .i64 1)), none⟩,
 ⟨(some 5), .mv (.t 8), none⟩])
 (.blk 0 (.loop (.seq (.seq (.reg [⟨(some 9), .mv (.t 5), none⟩,
 ⟨(some 10), .bin .geq (.t 9) (.c (.i .i64 0)), none⟩])
 (.cond (.t 10)
 .skip
 (.exit 0)))
 (.seq (.blk 1 (.seq (.reg [⟨(some 13), .mv (.t 0), none⟩,
 ⟨(some 14), .mv (.t 5), none⟩,
 ⟨(some 15), .ixS (.t 13) (.t 14), none⟩,
 ⟨(some 16), .mv (.t 1), none⟩,
 ⟨(some 17), .bin .eql (.t 15) (.t 16), none⟩])
 (.cond (.t 17)
 (.seq (.reg [⟨(some 18), .mv (.t 5), none⟩,
 ⟨(some 4), .mv (.t 18), none⟩])
 .ret)
 .skip)))
 (.reg [⟨(some 11), .mv (.t 5), none⟩,
 ⟨(some 12), .bin .sub (.t 11) (.c (.i .i64 1)), none⟩,
 ⟨(some 5), .mv (.t 12), none⟩]))))))
 (.seq (.reg [⟨(some 4), .mv (.c (.i .i64 (-1))), none⟩])
 .ret))) }
def c_cmp_Less_string : Fun := { cin := [.id, .id], cout := [.id], ntmps := 17, keep := false, res := [(4, none)], body :=
 (.seq (.reg [⟨(some 4), .mv (.c (.b false)), none⟩])
 (.seq (.reg [⟨(some 5), .mv (.t 0), none⟩,
 ⟨(some 6), .call f_cmp_isNaN_string [(.t 5)], none⟩,
 ⟨(some 7), .mv (.t 6), none⟩,
 ⟨(some 8), .mv (.t 1), (some (7, true))⟩,
 ⟨(some 9), .call f_cmp_isNaN_string [(.t 8)], (some (7, true))⟩,
 ⟨(some 10), .un .not (.t 9), (some (7, true))⟩,
 ⟨(some 11), .pick (.t 7) (.t 10) (.c (.b false)), none⟩,
 ⟨(some 12), .mv (.t 11), none⟩,
 ⟨(some 13), .mv (.t 0), (some (12, false))⟩,
 ⟨(some 14), .mv (.t 1), (some (12, false))⟩,
 ⟨(some 15), .bin .lss (.t 13) (.t 14), (some (12, false))⟩,
 ⟨(some 16), .pick (.t 12) (.c (.b true)) (.t 15), none⟩,
 ⟨(some 4), .mv (.t 16), none⟩])
 .ret)) }
def c_slices_isNaN_string : Fun := { cin := [.id], cout := [.id], ntmps := 6, keep := false, res := [(2, none)], body :=
 (.seq (.reg [⟨(some 2), .mv (.c (.b false)), none⟩])
 (.seq (.reg [⟨(some 3), .mv (.t 0), none⟩,
 ⟨(some 4), .mv (.t 0), none⟩,
 ⟨(some 5), .bin .neq (.t 3) (.t 4), none⟩,
 ⟨(some 2), .mv (.t 5), none⟩])
 .ret)) }
def c_internal_stringslite_HasPrefix : Fun := { cin := [.id, .id], cout := [.id], ntmps := 18, keep := false, res := [(4, none)], body :=
 (.seq (.reg [⟨(some 4), .mv (.c (.b false)), none⟩])
 (.seq (.reg [⟨(some 5), .mv (.t 0), none⟩,
 ⟨(some 6), .len 0 (.t 5), none⟩,
 ⟨(some 7), .mv (.t 1), none⟩,
 ⟨(some 8), .len 0 (.t 7), none⟩,
 ⟨(some 9), .bin .geq (.t 6) (.t 8), none⟩,
 ⟨(some 10), .mv (.t 9), none⟩,
 ⟨(some 11), .mv (.t 0), (some (10, true))⟩,
 ⟨(some 12), .mv (.t 1), (some (10, true))⟩,
 ⟨(some 13), .len 0 (.t 12), (some (10, true))⟩,
 ⟨(some 14), .slS (.t 11) none (some (.t 13)), (some (10, true))⟩,
 ⟨(some 15), .mv (.t 1), (some (10, true))⟩,
 ⟨(some 16), .bin .eql (.t 14) (.t 15), (some (10, true))⟩,
 ⟨(some 17), .pick (.t 10) (.t 16) (.c (.b false)), none⟩,
 ⟨(some 4), .mv (.t 17), none⟩])
 .ret)) }
def c_math_bits_Len : Fun := { cin := [.id], cout := [.id], ntmps := 8, keep := false, res := [(2, none)], body :=
 (.seq (.reg [⟨(some 2), .mv (.c (.i .i64 0)), none⟩])
 (.seq (.cond (.c (.b false))
 (.seq (.reg [⟨(some 3), .mv (.t 0), none⟩,
 ⟨(some 4), .cvI .u32 (.t 3), none⟩,
 ⟨(some 5), .call f_math_bits_Len32 [(.t 4)], none⟩,
 ⟨(some 2), .mv (.t 5), none⟩])
 .ret)
 .skip)
 (.seq (.reg [⟨(some 6), .mv (.t 0), none⟩,
 ⟨(some 7), .call f_math_bits_Len64 [(.t 6)], none⟩,
 ⟨(some 2), .mv (.t 7), none⟩])
 .ret))) }
def c_slices_IndexFunc_int_int : Fun := { cin := [(.sl 1 .id), .id], cout := [.id], ntmps := 19, keep := false, res := [(4, none)], body :=
 (.seq (.reg [⟨(some 4), .mv (.c (.i .i64 0)), none⟩])
 (.seq (.seq (.reg [⟨(some 6), .mv (.t 0), none⟩,
 ⟨(some 7), .len 1 (.t 6), none⟩,
 ⟨(some 8), .mv (.c (.i .i64 0)), none⟩])
 (.blk 0 (.loop (.seq (.reg [⟨(some 9), .bin .lss (.t 8) (.t 7), none⟩])
 (.seq (.cond (.t 9)
 .skip
 (.exit 0))
 (.seq (.blk 1 (.seq (.reg [⟨(some 10), .mv (.t 8), none⟩,
 ⟨(some 5), .mv (.t 10), none⟩])
 (.seq (.reg [⟨(some 11), .mv (.t 1), none⟩,
 ⟨(some 12), .mv (.t 0), none⟩,
 ⟨(some 13), .mv (.t 5), none⟩,
 ⟨(some 14), .ia 1 (.t 12) (.t 13), none⟩,
 ⟨(some 15), .ld false 1 (.t 14), none⟩,
 ⟨(some 16), .callX (.t 11) [(.t 15)], none⟩])
 (.cond (.t 16)
 (.seq (.reg [⟨(some 17), .mv (.t 5), none⟩,
 ⟨(some 4), .mv (.t 17), none⟩])
 .ret)
 .skip))))
 (.reg [⟨(some 18), .bin .add (.t 8) (.c (.i .i64 1)), none⟩,
 ⟨(some 8), .mv (.t 18), none⟩])))))))
 (.seq (.reg [⟨(some 4), .mv (.c (.i .i64 (-1))), none⟩])
 .ret))) }
def c_sym_ref : Fun := { cin := [.id], cout := [(.agg [.id, .id, .id, .id, (.sl 1 .id), (.sl 6 (.agg [.id, .id, .id, .id, (.sl 1 .id), (.sl 6 (.agg [.id, .id, .id, .id, (.sl 1 .id), (.sl 6 .id)]))]))])], ntmps := 5, keep := false, res := [(2, some (true, 6))], body :=
 (.seq (.reg [⟨(some 2), .alloc 91 [(.i .i64 0), (.i .u8 0), (.s []), (.i .i64 0), .nsl, .nsl], none⟩])
 (.seq (.reg [⟨(some 3), .mv (.t 0), none⟩,
 ⟨(some 4), .build [(.i .i64 0), (.i .u8 0), (.s []), (.i .i64 0), .nsl, .nsl] [(0, 1, (.t 3)), (3, 1, (.c (.i .i64 (-1))))], none⟩,
 ⟨none, .st 6 (.t 2) (.t 4), none⟩])
 .ret)) }
def c_prim_put : Fun := { cin := [.id, (.sl 1 .id), (.agg [.id, .id, (.sl 1 .id), (.sl 4 (.agg [.id, .id, (.sl 1 .id), (.sl 4 (.agg [.id, .id, (.sl 1 .id), (.sl 4 .id)]))]))])], cout := [.id], ntmps := 12, keep := false, res := [(6, none)], body :=
 (.seq (.reg [⟨(some 3), .box 99 1 (.t 0), none⟩,
 ⟨(some 4), .box 22 1 (.t 1), none⟩,
 ⟨(some 5), .box 25 4 (.t 2), none⟩,
 ⟨(some 6), .mv (.c (.i .i64 0)), none⟩])
 (.seq (.reg [⟨(some 7), .ld false 1 (.t 3), none⟩,
 ⟨(some 8), .mkf f_prim_put_1 [(.t 5), (.t 3), (.t 4)], none⟩,
 ⟨(some 9), .ld false 1 (.t 4), none⟩,
 ⟨(some 10), .bsl 1 [(.t 9)], none⟩,
 ⟨(some 11), .call f_prim_at [(.t 7), (.t 8), (.t 10)], none⟩,
 ⟨(some 6), .mv (.t 11), none⟩])
 .ret)) }
def c_prim_remove : Fun := { cin := [.id, (.sl 1 .id), .id], cout := [.id], ntmps := 12, keep := false, res := [(6, none)], body :=
 (.seq (.reg [⟨(some 3), .box 99 1 (.t 0), none⟩,
 ⟨(some 4), .box 22 1 (.t 1), none⟩,
 ⟨(some 5), .box 275 1 (.t 2), none⟩,
 ⟨(some 6), .mv (.c (.i .i64 0)), none⟩])
 (.seq (.reg [⟨(some 7), .ld false 1 (.t 3), none⟩,
 ⟨(some 8), .mkf f_prim_remove_1 [(.t 3), (.t 4), (.t 5)], none⟩,
 ⟨(some 9), .ld false 1 (.t 4), none⟩,
 ⟨(some 10), .bsl 1 [(.t 9)], none⟩,
 ⟨(some 11), .call f_prim_at [(.t 7), (.t 8), (.t 10)], none⟩,
 ⟨(some 6), .mv (.t 11), none⟩])
 .ret)) }
def c_prim_RemoveDir_1 : Fun := { cin := [.id], cout := [.id], ntmps := 18, keep := false, res := [(4, none)], body :=
 (.seq (.reg [⟨(some 4), .mv (.c (.i .i64 0)), none⟩])
 (.seq (.blk 0 (.seq (.reg [⟨(some 6), .mv (.t 0), none⟩,
 ⟨(some 7), .bin .neq (.t 6) (.c (.i .u8 2)), none⟩,
 ⟨(some 5), .mv (.t 7), none⟩])
 (.cond (.t 5)
 (.seq (.reg [⟨(some 4), .mv (.c (.i .i64 55)), none⟩])
 .ret)
 (.seq (.reg [⟨(some 9), .ld false 1 (.t 1), none⟩,
 ⟨(some 10), .len 1 (.t 9), none⟩,
 ⟨(some 11), .bin .eql (.t 10) (.c (.i .i64 0)), none⟩,
 ⟨(some 12), .mv (.t 11), none⟩,
 ⟨(some 13), .ld false 1 (.t 2), (some (12, false))⟩,
 ⟨(some 14), .ld false 1 (.t 1), (some (12, false))⟩,
 ⟨(some 15), .inv [(29, f_ftree_Tree_Empty), (216, f_sym_Tree_Empty)] (.t 13) [(.t 14)], (some (12, false))⟩,
 ⟨(some 16), .un .not (.t 15), (some (12, false))⟩,
 ⟨(some 17), .pick (.t 12) (.c (.b true)) (.t 16), none⟩,
 ⟨(some 8), .mv (.t 17), none⟩])
 (.cond (.t 8)
 (.seq (.reg [⟨(some 4), .mv (.c (.i .i64 57)), none⟩])
 .ret)
 .skip)))))
 (.seq (.reg [⟨(some 4), .mv (.c (.i .i64 0)), none⟩])
 .ret))) }
def c_prim_at : Fun := { cin := [.id, .id, (.sl 1 (.sl 1 .id))], cout := [.id], ntmps := 24, keep := false, res := [(6, none)], body :=
 (.seq (.reg [⟨(some 6), .mv (.c (.i .i64 0)), none⟩])
 (.seq (.seq (.reg [⟨(some 9), .mv (.t 0), none⟩,
 ⟨(some 10), .eq .ifc false (.t 9) (.c .ni), none⟩])
 (.cond (.t 10)
 (.seq (.reg [⟨(some 6), .mv (.c (.i .i64 2)), none⟩])
 .ret)
 .skip))
 (.seq (.seq (.reg [⟨(some 11), .mv (.t 2), none⟩,
 ⟨(some 12), .len 1 (.t 11), none⟩,
 ⟨(some 13), .mv (.c (.i .i64 0)), none⟩])
 (.blk 0 (.loop (.seq (.reg [⟨(some 14), .bin .lss (.t 13) (.t 12), none⟩])
 (.seq (.cond (.t 14)
 .skip
 (.exit 0))
 (.seq (.blk 1 (.seq (.reg [⟨(some 15), .ia 1 (.t 11) (.t 13), none⟩,
 ⟨(some 16), .ld false 1 (.t 15), none⟩,
 ⟨(some 8), .mv (.t 16), none⟩])
 (.seq (.reg [⟨(some 17), .mv (.t 0), none⟩,
 ⟨(some 18), .mv (.t 8), none⟩,
 ⟨(some 19), .call f_prim_taken [(.t 17), (.t 18)], none⟩,
 ⟨(some 20), .un .not (.t 19), none⟩])
 (.cond (.t 20)
 (.seq (.reg [⟨(some 6), .mv (.c (.i .i64 5)), none⟩])
 .ret)
 .skip))))
 (.reg [⟨(some 21), .bin .add (.t 13) (.c (.i .i64 1)), none⟩,
 ⟨(some 13), .mv (.t 21), none⟩])))))))
 (.seq (.reg [⟨(some 22), .mv (.t 1), none⟩,
 ⟨(some 23), .callX (.t 22) [], none⟩,
 ⟨(some 6), .mv (.t 23), none⟩])
 .ret)))) }
def c_prim_Touch_1 : Fun := { cin := [], cout := [.id], ntmps := 14, keep := false, res := [(2, none)], body :=
 (.seq (.reg [⟨(some 2), .mv (.c (.i .i64 0)), none⟩])
 (.seq (.seq (.reg [⟨(some 3), .ld false 1 (.t 0), none⟩,
 ⟨(some 4), .ld false 1 (.t 1), none⟩,
 ⟨(some 5), .inv [(17, f_internal_abi_Type_Kind), (29, f_ftree_Tree_Kind), (216, f_sym_Tree_Kind)] (.t 3) [(.t 4)], none⟩])
 (.blk 0 (.seq (.reg [⟨(some 7), .bin .eql (.t 5) (.c (.i .u8 3)), none⟩,
 ⟨(some 6), .mv (.t 7), none⟩])
 (.cond (.t 6)
 (.seq (.reg [⟨(some 2), .mv (.c (.i .i64 5)), none⟩])
 .ret)
 (.seq (.reg [⟨(some 9), .bin .eql (.t 5) (.c (.i .u8 0)), none⟩,
 ⟨(some 8), .mv (.t 9), none⟩])
 (.cond (.t 8)
 (.reg [⟨(some 10), .ld false 1 (.t 0), none⟩,
 ⟨(some 11), .ld false 1 (.t 1), none⟩,
 ⟨(some 12), .build [(.i .u8 0), (.s []), .nsl, .nsl] [(0, 1, (.c (.i .u8 1)))], none⟩,
 ⟨(some 13), .inv [(29, f_ftree_Tree_Put), (216, f_sym_Tree_Put)] (.t 10) [(.t 11), (.t 12)], none⟩])
 .skip))))))
 (.seq (.reg [⟨(some 2), .mv (.c (.i .i64 0)), none⟩])
 .ret))) }
def c_prim_Unlink_1 : Fun := { cin := [.id], cout := [.id], ntmps := 5, keep := false, res := [(2, none)], body :=
 (.seq (.reg [⟨(some 2), .mv (.c (.i .i64 0)), none⟩])
 (.seq (.seq (.reg [⟨(some 3), .mv (.t 0), none⟩,
 ⟨(some 4), .bin .eql (.t 3) (.c (.i .u8 2)), none⟩])
 (.cond (.t 4)
 (.seq (.reg [⟨(some 2), .mv (.c (.i .i64 55)), none⟩])
 .ret)
 .skip))
 (.seq (.reg [⟨(some 2), .mv (.c (.i .i64 0)), none⟩])
 .ret))) }
def c_prim_RemoveAll_1 : Fun := { cin := [.id], cout := [.id], ntmps := 7, keep := false, res := [(3, none)], body :=
 (.seq (.reg [⟨(some 3), .mv (.c (.i .i64 0)), none⟩])
 (.seq (.seq (.reg [⟨(some 4), .ld false 1 (.t 1), none⟩,
 ⟨(some 5), .len 1 (.t 4), none⟩,
 ⟨(some 6), .bin .eql (.t 5) (.c (.i .i64 0)), none⟩])
 (.cond (.t 6)
 (.seq (.reg [⟨(some 3), .mv (.c (.i .i64 57)), none⟩])
 .ret)
 .skip))
 (.seq (.reg [⟨(some 3), .mv (.c (.i .i64 0)), none⟩])
 .ret))) }
def c_strings_IndexRune : Fun := { cin := [.id, .id], cout := [.id], ntmps := 187, keep := false, res := [(4, none)], body :=
 (.seq (.reg [⟨(some 4), .mv (.c (.i .i64 0)), none⟩])
 (.blk 0 (.seq (.reg [⟨(some 161), .mv (.t 1), none⟩,
 ⟨(some 162), .bin .leq (.c (.i .i32 0)) (.t 161), none⟩,
 ⟨(some 163), .mv (.t 162), none⟩,
 ⟨(some 164), .mv (.t 1), (some (163, true))⟩,
 ⟨(some 165), .bin .lss (.t 164) (.c (.i .i32 128)), (some (163, true))⟩,
 ⟨(some 166), .pick (.t 163) (.t 165) (.c (.b false)), none⟩,
 ⟨(some 160), .mv (.t 166), none⟩])
 (.cond (.t 160)
 (.seq (.reg [⟨(some 167), .mv (.t 0), none⟩,
 ⟨(some 168), .mv (.t 1), none⟩,
 ⟨(some 169), .cvI .u8 (.t 168), none⟩,
 ⟨(some 170), .call f_strings_IndexByte [(.t 167), (.t 169)], none⟩,
 ⟨(some 4), .mv (.t 170), none⟩])
 .ret)
 (.seq (.reg [⟨(some 172), .mv (.t 1), none⟩,
 ⟨(some 173), .bin .eql (.t 172) (.c (.i .i32 65533)), none⟩,
 ⟨(some 171), .mv (.t 173), none⟩])
 (.cond (.t 171)
 (.seq (.seq (.reg [⟨(some 174), .mv (.t 0), none⟩,
 ⟨(some 175), .siter (.t 174), none⟩])
 (.blk 9 (.loop (.seq (.reg [⟨(some 176), .snext (.t 175), none⟩,
 ⟨(some 177), .ext (.t 176) 0, none⟩])
 (.seq (.cond (.t 177)
 .skip
 (.exit 9))
 (.blk 10 (.seq (.reg [⟨(some 178), .ext (.t 176) 1, none⟩,
 ⟨(some 179), .ext (.t 176) 2, none⟩,
 ⟨(some 5), .mv (.t 178), none⟩,
 ⟨(some 6), .mv (.t 179), none⟩])
 (.seq (.reg [⟨(some 180), .mv (.t 6), none⟩,
 ⟨(some 181), .bin .eql (.t 180) (.c (.i .i32 65533)), none⟩])
 (.cond (.t 181)
 (.seq (.reg [⟨(some 182), .mv (.t 5), none⟩,
 ⟨(some 4), .mv (.t 182), none⟩])
 .ret)
 .skip)))))))))
 (.seq (.reg [⟨(some 4), .mv (.c (.i .i64 (-1))), none⟩])
 .ret))
 (.seq (.reg [⟨(some 184), .mv (.t 1), none⟩,
 ⟨(some 185), .call f_unicode_utf8_ValidRune [(.t 184)], none⟩,
 ⟨(some 186), .un .not (.t 185), none⟩,
 ⟨(some 183), .mv (.t 186), none⟩])
 (.cond (.t 183)
 (.seq (.reg [⟨(some 4), .mv (.c (.i .i64 (-1))), none⟩])
 .ret)
 .bad)))))))) }
def c_strings_shouldUseASCIISet : Fun := { cin := [.id], cout := [.id], ntmps := 5, keep := false, res := [(2, none)], body :=
 (.seq (.reg [⟨(some 2), .mv (.c (.b false)), none⟩])
 (.seq (.reg [⟨(some 3), .mv (.t 0), none⟩,
 ⟨(some 4), .bin .gtr (.t 3) (.c (.i .i64 8)), none⟩,
 ⟨(some 2), .mv (.t 4), none⟩])
 .ret)) }
def c_strings_asciiSet_contains : Fun := { cin := [.id, .id], cout := [.id], ntmps := 10, keep := false, res := [(4, none)], body :=
 (.seq (.reg [⟨(some 4), .mv (.c (.b false)), none⟩])
 (.seq (.reg [⟨(some 5), .mv (.t 0), none⟩,
 ⟨(some 6), .mv (.t 1), none⟩,
 ⟨(some 7), .nck (.t 5), none⟩,
 ⟨(some 8), .iaA 256 1 (.t 7) (.t 6), none⟩,
 ⟨(some 9), .ld false 1 (.t 8), none⟩,
 ⟨(some 4), .mv (.t 9), none⟩])
 .ret)) }
def c_slices_AppendSeq_string_string : Fun := { cin := [], cout := [], ntmps := 13, keep := false, res := [(4, none)], body :=
 (.seq (.reg [⟨(some 2), .box 22 1 (.t 0), none⟩,
 ⟨(some 4), .mv (.c .nsl), none⟩])
 (.seq (.seq (.reg [⟨(some 6), .mv (.t 1), none⟩])
 (.blk 0 (.rf (.t 6) [7] (.reg [⟨(some 5), .mv (.t 7), none⟩])
 (.blk 1 (.reg [⟨(some 8), .ld false 1 (.t 2), none⟩,
 ⟨(some 9), .mv (.t 5), none⟩,
 ⟨(some 10), .bsl 1 [(.t 9)], none⟩,
 ⟨(some 11), .app 1 9 (.t 8) (.t 10), none⟩,
 ⟨none, .st 1 (.t 2) (.t 11), none⟩])))))
 (.seq (.reg [⟨(some 12), .ld false 1 (.t 2), none⟩,
 ⟨(some 4), .mv (.t 12), none⟩])
 .ret))) }
def c_walk_walker_below : Fun := { cin := [.id, .id], cout := [(.sl 1 .id)], ntmps := 21, keep := false, res := [(4, none)], body :=
 (.seq (.reg [⟨(some 4), .mv (.c .nsl), none⟩])
 (.seq (.reg [⟨(some 6), .mv (.t 0), none⟩,
 ⟨(some 7), .nck (.t 6), none⟩,
 ⟨(some 8), .fa 1 (.t 7), none⟩,
 ⟨(some 9), .ld false 1 (.t 8), none⟩,
 ⟨(some 10), .len 1 (.t 9), none⟩,
 ⟨(some 5), .mv (.t 10), none⟩])
 (.seq (.reg [⟨(some 11), .mv (.t 0), none⟩,
 ⟨(some 12), .nck (.t 11), none⟩,
 ⟨(some 13), .fa 1 (.t 12), none⟩,
 ⟨(some 14), .ld false 1 (.t 13), none⟩,
 ⟨(some 15), .mv (.t 5), none⟩,
 ⟨(some 16), .mv (.t 5), none⟩,
 ⟨(some 17), .slc false 1 (.t 14) none (some (.t 15)) (some (.t 16)), none⟩,
 ⟨(some 18), .mv (.t 1), none⟩,
 ⟨(some 19), .bsl 1 [(.t 18)], none⟩,
 ⟨(some 20), .app 1 9 (.t 17) (.t 19), none⟩,
 ⟨(some 4), .mv (.t 20), none⟩])
 .ret))) }
def c_walk_walker_follow : Fun := { cin := [.id, (.sl 1 .id)], cout := [.id], ntmps := 63, keep := false, res := [(4, none)], body :=
 (.seq (.reg [⟨(some 4), .mv (.c (.i .i64 0)), none⟩])
 (.seq (.reg [⟨(some 7), .mv (.t 0), none⟩,
 ⟨(some 8), .nck (.t 7), none⟩,
 ⟨(some 9), .fa 5 (.t 8), none⟩,
 ⟨(some 10), .ld false 1 (.t 9), none⟩,
 ⟨(some 11), .bin .add (.t 10) (.c (.i .i64 1)), none⟩,
 ⟨(some 12), .nck (.t 7), none⟩,
 ⟨(some 13), .fa 5 (.t 12), none⟩,
 ⟨none, .st 1 (.t 13) (.t 11), none⟩])
 (.seq (.seq (.reg [⟨(some 14), .mv (.t 0), none⟩,
 ⟨(some 15), .nck (.t 14), none⟩,
 ⟨(some 16), .fa 5 (.t 15), none⟩,
 ⟨(some 17), .ld false 1 (.t 16), none⟩,
 ⟨(some 18), .bin .gtr (.t 17) (.c (.i .i64 8)), none⟩])
 (.cond (.t 18)
 (.seq (.reg [⟨(some 4), .mv (.c (.i .i64 61)), none⟩])
 .ret)
 .skip))
 (.seq (.reg [⟨(some 19), .mv (.t 0), none⟩,
 ⟨(some 20), .nck (.t 19), none⟩,
 ⟨(some 21), .fa 0 (.t 20), none⟩,
 ⟨(some 22), .ld false 1 (.t 21), none⟩,
 ⟨(some 23), .mv (.t 1), none⟩,
 ⟨(some 24), .inv [(29, f_ftree_Tree_Text), (216, f_sym_Tree_Text)] (.t 22) [(.t 23)], none⟩,
 ⟨(some 5), .mv (.t 24), none⟩])
 (.seq (.seq (.reg [⟨(some 25), .mv (.t 0), none⟩,
 ⟨(some 26), .nck (.t 25), none⟩,
 ⟨(some 27), .fa 2 (.t 26), none⟩,
 ⟨(some 28), .ld false 1 (.t 27), none⟩,
 ⟨(some 29), .len 1 (.t 28), none⟩,
 ⟨(some 30), .bin .eql (.t 29) (.c (.i .i64 0)), none⟩])
 (.cond (.t 30)
 (.reg [⟨(some 31), .mv (.t 0), none⟩,
 ⟨(some 32), .mv (.t 0), none⟩,
 ⟨(some 33), .nck (.t 32), none⟩,
 ⟨(some 34), .fa 3 (.t 33), none⟩,
 ⟨(some 35), .ld false 1 (.t 34), none⟩,
 ⟨(some 36), .mv (.t 35), none⟩,
 ⟨(some 37), .mv (.t 5), (some (36, false))⟩,
 ⟨(some 38), .call f_path_Dir [(.t 37)], (some (36, false))⟩,
 ⟨(some 39), .pick (.t 36) (.c (.b true)) (.t 38), none⟩,
 ⟨(some 40), .nck (.t 31), none⟩,
 ⟨(some 41), .fa 3 (.t 40), none⟩,
 ⟨none, .st 1 (.t 41) (.t 39), none⟩])
 .skip))
 (.seq (.reg [⟨(some 42), .mv (.t 5), none⟩,
 ⟨(some 43), .call f_path_Steps [(.t 42)], none⟩,
 ⟨(some 6), .mv (.t 43), none⟩])
 (.seq (.regD [⟨(some 44), .mv (.t 0), none⟩,
 ⟨(some 45), .mv (.t 6), none⟩,
 ⟨(some 46), .mv (.t 6), none⟩,
 ⟨(some 47), .len 1 (.t 46), none⟩,
 ⟨(some 48), .mv (.t 6), none⟩,
 ⟨(some 49), .len 1 (.t 48), none⟩,
 ⟨(some 50), .slc false 1 (.t 45) none (some (.t 47)) (some (.t 49)), none⟩,
 ⟨(some 51), .mv (.t 0), none⟩,
 ⟨(some 52), .nck (.t 51), none⟩,
 ⟨(some 53), .fa 2 (.t 52), none⟩,
 ⟨(some 54), .ld false 1 (.t 53), none⟩,
 ⟨(some 55), .app 1 9 (.t 50) (.t 54), none⟩,
 ⟨(some 56), .nck (.t 44), none⟩,
 ⟨(some 57), .fa 2 (.t 56), none⟩,
 ⟨none, .st 1 (.t 57) (.t 55), none⟩] [])
 (.seq (.seq (.reg [⟨(some 58), .mv (.t 5), none⟩,
 ⟨(some 59), .call f_strings_HasPrefix [(.t 58), (.c (.s [47]))], none⟩])
 (.cond (.t 59)
 (.reg [⟨(some 60), .mv (.t 0), none⟩,
 ⟨(some 61), .nck (.t 60), none⟩,
 ⟨(some 62), .fa 1 (.t 61), none⟩,
 ⟨none, .st 1 (.t 62) (.c .nsl), none⟩])
 .skip))
 (.seq (.reg [⟨(some 4), .mv (.c (.i .i64 0)), none⟩])
 .ret))))))))) }
def c_internal_bytealg_Cutover : Fun := { cin := [.id], cout := [.id], ntmps := 6, keep := false, res := [(2, none)], body :=
 (.seq (.reg [⟨(some 2), .mv (.c (.i .i64 0)), none⟩])
 (.seq (.reg [⟨(some 3), .mv (.t 0), none⟩,
 ⟨(some 4), .bin .add (.t 3) (.c (.i .i64 16)), none⟩,
 ⟨(some 5), .bin .quo (.t 4) (.c (.i .i64 8)), none⟩,
 ⟨(some 2), .mv (.t 5), none⟩])
 .ret)) }
def c_internal_bytealg_IndexRabinKarp_string : Fun := { cin := [.id, .id], cout := [.id], ntmps := 81, keep := false, res := [(4, none)], body :=
 (.seq (.reg [⟨(some 4), .mv (.c (.i .i64 0)), none⟩])
 (.seq (.reg [⟨(some 12), .mv (.t 1), none⟩,
 ⟨(some 13), .call f_internal_bytealg_hashStr_string [(.t 12)], none⟩,
 ⟨(some 11), .mv (.t 13), none⟩,
 ⟨(some 14), .ext (.t 11) 0, none⟩,
 ⟨(some 15), .ext (.t 11) 1, none⟩,
 ⟨(some 5), .mv (.t 14), none⟩,
 ⟨(some 6), .mv (.t 15), none⟩])
 (.seq (.reg [⟨(some 16), .mv (.t 1), none⟩,
 ⟨(some 17), .len 0 (.t 16), none⟩,
 ⟨(some 7), .mv (.t 17), none⟩])
 (.seq (.reg [⟨(some 8), .mv (.c (.i .u32 0)), none⟩])
 (.seq (.seq (.reg [⟨(some 9), .mv (.c (.i .i64 0)), none⟩])
 (.blk 0 (.loop (.seq (.seq (.reg [⟨(some 18), .mv (.t 9), none⟩,
 ⟨(some 19), .mv (.t 7), none⟩,
 ⟨(some 20), .bin .lss (.t 18) (.t 19), none⟩])
 (.cond (.t 20)
 .skip
 (.exit 0)))
 (.seq (.blk 1 (.reg [⟨(some 23), .mv (.t 8), none⟩,
 ⟨(some 24), .bin .mul (.t 23) (.c (.i .u32 16777619)), none⟩,
 ⟨(some 25), .mv (.t 0), none⟩,
 ⟨(some 26), .mv (.t 9), none⟩,
 ⟨(some 27), .ixS (.t 25) (.t 26), none⟩,
 ⟨(some 28), .cvI .u32 (.t 27), none⟩,
 ⟨(some 29), .bin .add (.t 24) (.t 28), none⟩,
 ⟨(some 8), .mv (.t 29), none⟩]))
 (.reg [⟨(some 21), .mv (.t 9), none⟩,
 ⟨(some 22), .bin .add (.t 21) (.c (.i .i64 1)), none⟩,
 ⟨(some 9), .mv (.t 22), none⟩]))))))
 (.seq (.seq (.reg [⟨(some 30), .mv (.t 8), none⟩,
 ⟨(some 31), .mv (.t 5), none⟩,
 ⟨(some 32), .bin .eql (.t 30) (.t 31), none⟩,
 ⟨(some 33), .mv (.t 32), none⟩,
 ⟨(some 34), .mv (.t 0), (some (33, true))⟩,
 ⟨(some 35), .mv (.t 7), (some (33, true))⟩,
 ⟨(some 36), .slS (.t 34) none (some (.t 35)), (some (33, true))⟩,
 ⟨(some 37), .mv (.t 1), (some (33, true))⟩,
 ⟨(some 38), .bin .eql (.t 36) (.t 37), (some (33, true))⟩,
 ⟨(some 39), .pick (.t 33) (.t 38) (.c (.b false)), none⟩])
 (.cond (.t 39)
 (.seq (.reg [⟨(some 4), .mv (.c (.i .i64 0)), none⟩])
 .ret)
 .skip))
 (.seq (.seq (.reg [⟨(some 40), .mv (.t 7), none⟩,
 ⟨(some 10), .mv (.t 40), none⟩])
 (.blk 2 (.loop (.seq (.seq (.reg [⟨(some 41), .mv (.t 10), none⟩,
 ⟨(some 42), .mv (.t 0), none⟩,
 ⟨(some 43), .len 0 (.t 42), none⟩,
 ⟨(some 44), .bin .lss (.t 41) (.t 43), none⟩])
 (.cond (.t 44)
 .skip
 (.exit 2)))
 (.blk 3 (.seq (.reg [⟨(some 45), .mv (.t 8), none⟩,
 ⟨(some 46), .bin .mul (.t 45) (.c (.i .u32 16777619)), none⟩,
 ⟨(some 8), .mv (.t 46), none⟩])
 (.seq (.reg [⟨(some 47), .mv (.t 8), none⟩,
 ⟨(some 48), .mv (.t 0), none⟩,
 ⟨(some 49), .mv (.t 10), none⟩,
 ⟨(some 50), .ixS (.t 48) (.t 49), none⟩,
 ⟨(some 51), .cvI .u32 (.t 50), none⟩,
 ⟨(some 52), .bin .add (.t 47) (.t 51), none⟩,
 ⟨(some 8), .mv (.t 52), none⟩])
 (.seq (.reg [⟨(some 53), .mv (.t 8), none⟩,
 ⟨(some 54), .mv (.t 6), none⟩,
 ⟨(some 55), .mv (.t 0), none⟩,
 ⟨(some 56), .mv (.t 10), none⟩,
 ⟨(some 57), .mv (.t 7), none⟩,
 ⟨(some 58), .bin .sub (.t 56) (.t 57), none⟩,
 ⟨(some 59), .ixS (.t 55) (.t 58), none⟩,
 ⟨(some 60), .cvI .u32 (.t 59), none⟩,
 ⟨(some 61), .bin .mul (.t 54) (.t 60), none⟩,
 ⟨(some 62), .bin .sub (.t 53) (.t 61), none⟩,
 ⟨(some 8), .mv (.t 62), none⟩])
 (.seq (.reg [⟨(some 63), .mv (.t 10), none⟩,
 ⟨(some 64), .bin .add (.t 63) (.c (.i .i64 1)), none⟩,
 ⟨(some 10), .mv (.t 64), none⟩])
 (.seq (.reg [⟨(some 65), .mv (.t 8), none⟩,
 ⟨(some 66), .mv (.t 5), none⟩,
 ⟨(some 67), .bin .eql (.t 65) (.t 66), none⟩,
 ⟨(some 68), .mv (.t 67), none⟩,
 ⟨(some 69), .mv (.t 0), (some (68, true))⟩,
 ⟨(some 70), .mv (.t 10), (some (68, true))⟩,
 ⟨(some 71), .mv (.t 7), (some (68, true))⟩,
 ⟨(some 72), .bin .sub (.t 70) (.t 71), (some (68, true))⟩,
 ⟨(some 73), .mv (.t 10), (some (68, true))⟩,
 ⟨(some 74), .slS (.t 69) (some (.t 72)) (some (.t 73)), (some (68, true))⟩,
 ⟨(some 75), .mv (.t 1), (some (68, true))⟩,
 ⟨(some 76), .bin .eql (.t 74) (.t 75), (some (68, true))⟩,
 ⟨(some 77), .pick (.t 68) (.t 76) (.c (.b false)), none⟩])
 (.cond (.t 77)
 (.seq (.reg [⟨(some 78), .mv (.t 10), none⟩,
 ⟨(some 79), .mv (.t 7), none⟩,
 ⟨(some 80), .bin .sub (.t 78) (.t 79), none⟩,
 ⟨(some 4), .mv (.t 80), none⟩])
 .ret)
 .skip)))))))))))
 (.seq (.reg [⟨(some 4), .mv (.c (.i .i64 (-1))), none⟩])
 .ret)))))))) }
def c_strings_splitSeq_1 : Fun := { cin := [.id], cout := [], ntmps := 52, keep := false, res := [], body :=
 (.seq (.seq (.reg [⟨(some 9), .ld false 1 (.t 1), none⟩,
 ⟨(some 10), .len 0 (.t 9), none⟩,
 ⟨(some 11), .bin .eql (.t 10) (.c (.i .i64 0)), none⟩])
 (.cond (.t 11)
 (.seq (.blk 0 (.loop (.seq (.seq (.reg [⟨(some 12), .ld false 1 (.t 2), none⟩,
 ⟨(some 13), .len 0 (.t 12), none⟩,
 ⟨(some 14), .bin .gtr (.t 13) (.c (.i .i64 0)), none⟩])
 (.cond (.t 14)
 .skip
 (.exit 0)))
 (.blk 1 (.seq (.reg [⟨(some 16), .ld false 1 (.t 2), none⟩,
 ⟨(some 17), .call f_unicode_utf8_DecodeRuneInString [(.t 16)], none⟩,
 ⟨(some 15), .mv (.t 17), none⟩,
 ⟨(some 18), .ext (.t 15) 0, none⟩,
 ⟨(some 19), .ext (.t 15) 1, none⟩,
 ⟨(some 5), .mv (.t 18), none⟩,
 ⟨(some 6), .mv (.t 19), none⟩])
 (.seq (.seq (.reg [⟨(some 20), .mv (.t 0), none⟩,
 ⟨(some 21), .ld false 1 (.t 2), none⟩,
 ⟨(some 22), .mv (.t 6), none⟩,
 ⟨(some 23), .slS (.t 21) none (some (.t 22)), none⟩,
 ⟨(some 24), .callX (.t 20) [(.t 23)], none⟩,
 ⟨(some 25), .un .not (.t 24), none⟩])
 (.cond (.t 25)
 .ret
 .skip))
 (.reg [⟨(some 26), .ld false 1 (.t 2), none⟩,
 ⟨(some 27), .mv (.t 6), none⟩,
 ⟨(some 28), .slS (.t 26) (some (.t 27)) none, none⟩,
 ⟨none, .st 1 (.t 2) (.t 28), none⟩])))))))
 .ret)
 .skip))
 (.seq (.blk 2 (.loop (.blk 3 (.seq (.reg [⟨(some 29), .ld false 1 (.t 2), none⟩,
 ⟨(some 30), .ld false 1 (.t 1), none⟩,
 ⟨(some 31), .call f_strings_Index [(.t 29), (.t 30)], none⟩,
 ⟨(some 7), .mv (.t 31), none⟩])
 (.seq (.seq (.reg [⟨(some 32), .mv (.t 7), none⟩,
 ⟨(some 33), .bin .lss (.t 32) (.c (.i .i64 0)), none⟩])
 (.cond (.t 33)
 (.exit 2)
 .skip))
 (.seq (.reg [⟨(some 34), .ld false 1 (.t 2), none⟩,
 ⟨(some 35), .mv (.t 7), none⟩,
 ⟨(some 36), .ld false 1 (.t 3), none⟩,
 ⟨(some 37), .bin .add (.t 35) (.t 36), none⟩,
 ⟨(some 38), .slS (.t 34) none (some (.t 37)), none⟩,
 ⟨(some 8), .mv (.t 38), none⟩])
 (.seq (.seq (.reg [⟨(some 39), .mv (.t 0), none⟩,
 ⟨(some 40), .mv (.t 8), none⟩,
 ⟨(some 41), .callX (.t 39) [(.t 40)], none⟩,
 ⟨(some 42), .un .not (.t 41), none⟩])
 (.cond (.t 42)
 .ret
 .skip))
 (.reg [⟨(some 43), .ld false 1 (.t 2), none⟩,
 ⟨(some 44), .mv (.t 7), none⟩,
 ⟨(some 45), .ld false 1 (.t 1), none⟩,
 ⟨(some 46), .len 0 (.t 45), none⟩,
 ⟨(some 47), .bin .add (.t 44) (.t 46), none⟩,
 ⟨(some 48), .slS (.t 43) (some (.t 47)) none, none⟩,
 ⟨none, .st 1 (.t 2) (.t 48), none⟩]))))))))
 (.reg [⟨(some 49), .mv (.t 0), none⟩,
 ⟨(some 50), .ld false 1 (.t 2), none⟩,
 ⟨(some 51), .callX (.t 49) [(.t 50)], none⟩]))) }
def c_unicode_utf8_DecodeRuneInString : Fun := { cin := [.id], cout := [.id, .id], ntmps := 19, keep := false, res := [(2, none), (3, none)], body :=
 (.seq (.reg [⟨(some 2), .mv (.c (.i .i32 0)), none⟩,
 ⟨(some 3), .mv (.c (.i .i64 0)), none⟩])
 (.seq (.seq (.reg [⟨(some 4), .mv (.t 0), none⟩,
 ⟨(some 5), .bin .neq (.t 4) (.c (.s [])), none⟩,
 ⟨(some 6), .mv (.t 5), none⟩,
 ⟨(some 7), .mv (.t 0), (some (6, true))⟩,
 ⟨(some 8), .ixS (.t 7) (.c (.i .i64 0)), (some (6, true))⟩,
 ⟨(some 9), .bin .lss (.t 8) (.c (.i .u8 128)), (some (6, true))⟩,
 ⟨(some 10), .pick (.t 6) (.t 9) (.c (.b false)), none⟩])
 (.cond (.t 10)
 (.seq (.reg [⟨(some 11), .mv (.t 0), none⟩,
 ⟨(some 12), .ixS (.t 11) (.c (.i .i64 0)), none⟩,
 ⟨(some 13), .cvI .i32 (.t 12), none⟩,
 ⟨(some 2), .mv (.t 13), none⟩,
 ⟨(some 3), .mv (.c (.i .i64 1)), none⟩])
 .ret)
 (.reg [⟨(some 15), .mv (.t 0), none⟩,
 ⟨(some 16), .call f_unicode_utf8_decodeRuneInStringSlow [(.t 15)], none⟩,
 ⟨(some 14), .mv (.t 16), none⟩,
 ⟨(some 17), .ext (.t 14) 0, none⟩,
 ⟨(some 18), .ext (.t 14) 1, none⟩,
 ⟨(some 2), .mv (.t 17), none⟩,
 ⟨(some 3), .mv (.t 18), none⟩])))
 .ret)) }
def c_slices_Equal_string_string : Fun := { cin := [(.sl 1 .id), (.sl 1 .id)], cout := [.id], ntmps := 26, keep := false, res := [(4, none)], body :=
 (.seq (.reg [⟨(some 4), .mv (.c (.b false)), none⟩])
 (.seq (.seq (.reg [⟨(some 6), .mv (.t 0), none⟩,
 ⟨(some 7), .len 1 (.t 6), none⟩,
 ⟨(some 8), .mv (.t 1), none⟩,
 ⟨(some 9), .len 1 (.t 8), none⟩,
 ⟨(some 10), .bin .neq (.t 7) (.t 9), none⟩])
 (.cond (.t 10)
 (.seq (.reg [⟨(some 4), .mv (.c (.b false)), none⟩])
 .ret)
 .skip))
 (.seq (.seq (.reg [⟨(some 11), .mv (.t 0), none⟩,
 ⟨(some 12), .len 1 (.t 11), none⟩,
 ⟨(some 13), .mv (.c (.i .i64 0)), none⟩])
 (.blk 0 (.loop (.seq (.reg [⟨(some 14), .bin .lss (.t 13) (.t 12), none⟩])
 (.seq (.cond (.t 14)
 .skip
 (.exit 0))
 (.seq (.blk 1 (.seq (.reg [⟨(some 15), .mv (.t 13), none⟩,
 ⟨(some 5), .mv (.t 15), none⟩])
 (.seq (.regD [⟨(some 16), .mv (.t 0), none⟩,
 ⟨(some 17), .mv (.t 5), none⟩,
 ⟨(some 18), .ia 1 (.t 16) (.t 17), none⟩,
 ⟨(some 19), .ld false 1 (.t 18), none⟩,
 ⟨(some 20), .mv (.t 1), none⟩,
 ⟨(some 21), .mv (.t 5), none⟩,
 ⟨(some 22), .ia 1 (.t 20) (.t 21), none⟩,
 ⟨(some 23), .ld false 1 (.t 22), none⟩,
 ⟨(some 24), .bin .neq (.t 19) (.t 23), none⟩] [])
 (.cond (.t 24)
 (.seq (.reg [⟨(some 4), .mv (.c (.b false)), none⟩])
 .ret)
 .skip))))
 (.reg [⟨(some 25), .bin .add (.t 13) (.c (.i .i64 1)), none⟩,
 ⟨(some 13), .mv (.t 25), none⟩])))))))
 (.seq (.reg [⟨(some 4), .mv (.c (.b true)), none⟩])
 .ret)))) }
def c_cmp_isNaN_string : Fun := { cin := [.id], cout := [.id], ntmps := 6, keep := false, res := [(2, none)], body :=
 (.seq (.reg [⟨(some 2), .mv (.c (.b false)), none⟩])
 (.seq (.reg [⟨(some 3), .mv (.t 0), none⟩,
 ⟨(some 4), .mv (.t 0), none⟩,
 ⟨(some 5), .bin .neq (.t 3) (.t 4), none⟩,
 ⟨(some 2), .mv (.t 5), none⟩])
 .ret)) }
def c_math_bits_Len32 : Fun := { cin := [.id], cout := [.id], ntmps := 19, keep := false, res := [(2, none)], body :=
 (.seq (.reg [⟨(some 2), .mv (.c (.i .i64 0)), none⟩])
 (.seq (.seq (.reg [⟨(some 3), .mv (.t 0), none⟩,
 ⟨(some 4), .bin .geq (.t 3) (.c (.i .u32 65536)), none⟩])
 (.cond (.t 4)
 (.seq (.reg [⟨(some 5), .mv (.t 0), none⟩,
 ⟨(some 6), .bin .shr (.t 5) (.c (.i .u64 16)), none⟩,
 ⟨(some 0), .mv (.t 6), none⟩])
 (.reg [⟨(some 2), .mv (.c (.i .i64 16)), none⟩]))
 .skip))
 (.seq (.seq (.reg [⟨(some 7), .mv (.t 0), none⟩,
 ⟨(some 8), .bin .geq (.t 7) (.c (.i .u32 256)), none⟩])
 (.cond (.t 8)
 (.seq (.reg [⟨(some 9), .mv (.t 0), none⟩,
 ⟨(some 10), .bin .shr (.t 9) (.c (.i .u64 8)), none⟩,
 ⟨(some 0), .mv (.t 10), none⟩])
 (.reg [⟨(some 11), .mv (.t 2), none⟩,
 ⟨(some 12), .bin .add (.t 11) (.c (.i .i64 8)), none⟩,
 ⟨(some 2), .mv (.t 12), none⟩]))
 .skip))
 (.seq (.reg [⟨(some 13), .mv (.t 2), none⟩,
 ⟨(some 14), .mv (.t 0), none⟩,
 ⟨(some 15), .cvI .u8 (.t 14), none⟩,
 ⟨(some 16), .ixS (.c (.s [0, 1, 2, 2, 3, 3, 3, 3, 4, 4, 4, 4, 4, 4, 4, 4, 5, 5, 5, 5, 5, 5, 5, 5, 5, 5, 5, 5, 5, 5, 5, 5, 6, 6, 6, 6, 6, 6, 6, 6, 6, 6, 6, 6, 6, 6, 6, 6, 6, 6, 6, 6, 6, 6, 6, 6, 6, 6, 6, 6, 6, 6, 6, 6, 7, 7, 7, 7, 7, 7, 7, 7, 7, 7, 7, 7, 7, 7, 7, 7, 7, 7, 7, 7, 7, 7, 7, 7, 7, 7, 7, 7, 7, 7, 7, 7, 7, 7, 7, 7, 7, 7, 7, 7, 7, 7, 7, 7, 7, 7, 7, 7, 7, 7, 7, 7, 7, 7, 7, 7, 7, 7, 7, 7, 7, 7, 7, 7, 8, 8, 8, 8, 8, 8, 8, 8, 8, 8, 8, 8, 8, 8, 8, 8, 8, 8, 8, 8, 8, 8, 8, 8, 8, 8, 8, 8, 8, 8, 8, 8, 8, 8, 8, 8, 8, 8, 8, 8, 8, 8, 8, 8, 8, 8, 8, 8, 8, 8, 8, 8, 8, 8, 8, 8, 8, 8, 8, 8, 8, 8, 8, 8, 8, 8, 8, 8, 8, 8, 8, 8, 8, 8, 8, 8, 8, 8, 8, 8, 8, 8, 8, 8, 8, 8, 8, 8, 8, 8, 8, 8, 8, 8, 8, 8, 8, 8, 8, 8, 8, 8, 8, 8, 8, 8, 8, 8, 8, 8, 8, 8, 8, 8, 8, 8, 8, 8, 8, 8, 8, 8, 8, 8, 8, 8, 8, 8])) (.t 15), none⟩,
 ⟨(some 17), .cvI .i64 (.t 16), none⟩,
 ⟨(some 18), .bin .add (.t 13) (.t 17), none⟩,
 ⟨(some 2), .mv (.t 18), none⟩])
 .ret)))) }
def c_math_bits_Len64 : Fun := { cin := [.id], cout := [.id], ntmps := 25, keep := false, res := [(2, none)], body :=
 (.seq (.reg [⟨(some 2), .mv (.c (.i .i64 0)), none⟩])
 (.seq (.seq (.reg [⟨(some 3), .mv (.t 0), none⟩,
 ⟨(some 4), .bin .geq (.t 3) (.c (.i .u64 4294967296)), none⟩])
 (.cond (.t 4)
 (.seq (.reg [⟨(some 5), .mv (.t 0), none⟩,
 ⟨(some 6), .bin .shr (.t 5) (.c (.i .u64 32)), none⟩,
 ⟨(some 0), .mv (.t 6), none⟩])
 (.reg [⟨(some 2), .mv (.c (.i .i64 32)), none⟩]))
 .skip))
 (.seq (.seq (.reg [⟨(some 7), .mv (.t 0), none⟩,
 ⟨(some 8), .bin .geq (.t 7) (.c (.i .u64 65536)), none⟩])
 (.cond (.t 8)
 (.seq (.reg [⟨(some 9), .mv (.t 0), none⟩,
 ⟨(some 10), .bin .shr (.t 9) (.c (.i .u64 16)), none⟩,
 ⟨(some 0), .mv (.t 10), none⟩])
 (.reg [⟨(some 11), .mv (.t 2), none⟩,
 ⟨(some 12), .bin .add (.t 11) (.c (.i .i64 16)), none⟩,
 ⟨(some 2), .mv (.t 12), none⟩]))
 .skip))
 (.seq (.seq (.reg [⟨(some 13), .mv (.t 0), none⟩,
 ⟨(some 14), .bin .geq (.t 13) (.c (.i .u64 256)), none⟩])
 (.cond (.t 14)
 (.seq (.reg [⟨(some 15), .mv (.t 0), none⟩,
 ⟨(some 16), .bin .shr (.t 15) (.c (.i .u64 8)), none⟩,
 ⟨(some 0), .mv (.t 16), none⟩])
 (.reg [⟨(some 17), .mv (.t 2), none⟩,
 ⟨(some 18), .bin .add (.t 17) (.c (.i .i64 8)), none⟩,
 ⟨(some 2), .mv (.t 18), none⟩]))
 .skip))
 (.seq (.reg [⟨(some 19), .mv (.t 2), none⟩,
 ⟨(some 20), .mv (.t 0), none⟩,
 ⟨(some 21), .cvI .u8 (.t 20), none⟩,
 ⟨(some 22), .ixS (.c (.s [0, 1, 2, 2, 3, 3, 3, 3, 4, 4, 4, 4, 4, 4, 4, 4, 5, 5, 5, 5, 5, 5, 5, 5, 5, 5, 5, 5, 5, 5, 5, 5, 6, 6, 6, 6, 6, 6, 6, 6, 6, 6, 6, 6, 6, 6, 6, 6, 6, 6, 6, 6, 6, 6, 6, 6, 6, 6, 6, 6, 6, 6, 6, 6, 7, 7, 7, 7, 7, 7, 7, 7, 7, 7, 7, 7, 7, 7, 7, 7, 7, 7, 7, 7, 7, 7, 7, 7, 7, 7, 7, 7, 7, 7, 7, 7, 7, 7, 7, 7, 7, 7, 7, 7, 7, 7, 7, 7, 7, 7, 7, 7, 7, 7, 7, 7, 7, 7, 7, 7, 7, 7, 7, 7, 7, 7, 7, 7, 8, 8, 8, 8, 8, 8, 8, 8, 8, 8, 8, 8, 8, 8, 8, 8, 8, 8, 8, 8, 8, 8, 8, 8, 8, 8, 8, 8, 8, 8, 8, 8, 8, 8, 8, 8, 8, 8, 8, 8, 8, 8, 8, 8, 8, 8, 8, 8, 8, 8, 8, 8, 8, 8, 8, 8, 8, 8, 8, 8, 8, 8, 8, 8, 8, 8, 8, 8, 8, 8, 8, 8, 8, 8, 8, 8, 8, 8, 8, 8, 8, 8, 8, 8, 8, 8, 8, 8, 8, 8, 8, 8, 8, 8, 8, 8, 8, 8, 8, 8, 8, 8, 8, 8, 8, 8, 8, 8, 8, 8, 8, 8, 8, 8, 8, 8, 8, 8, 8, 8, 8, 8, 8, 8, 8, 8, 8, 8])) (.t 21), none⟩,
 ⟨(some 23), .cvI .i64 (.t 22), none⟩,
 ⟨(some 24), .bin .add (.t 19) (.t 23), none⟩,
 ⟨(some 2), .mv (.t 24), none⟩])
 .ret))))) }
def c_slices_Clone_api_Fact_api_Fact : Fun := { cin := [(.sl 6 (.agg [.id, .id, (.sl 1 .id), (.sl 1 .id), .id, .id]))], cout := [], ntmps := 8, keep := true, res := [(2, none)], body :=
 (.seq (.reg [⟨(some 2), .mv (.c .nsl), none⟩])
 (.seq (.seq (.reg [⟨(some 3), .mv (.t 0), none⟩,
 ⟨(some 4), .eq .sl false (.t 3) (.c .nsl), none⟩])
 (.cond (.t 4)
 (.seq (.reg [⟨(some 2), .mv (.c .nsl), none⟩])
 .ret)
 .skip))
 (.seq (.reg [⟨(some 5), .bsl 6 [], none⟩,
 ⟨(some 6), .mv (.t 0), none⟩,
 ⟨(some 7), .app 6 84 (.t 5) (.t 6), none⟩,
 ⟨(some 2), .mv (.t 7), none⟩])
 .ret))) }
def c_slices_Clone_int_int : Fun := { cin := [(.sl 1 .id)], cout := [], ntmps := 8, keep := true, res := [(2, none)], body :=
 (.seq (.reg [⟨(some 2), .mv (.c .nsl), none⟩])
 (.seq (.seq (.reg [⟨(some 3), .mv (.t 0), none⟩,
 ⟨(some 4), .eq .sl false (.t 3) (.c .nsl), none⟩])
 (.cond (.t 4)
 (.seq (.reg [⟨(some 2), .mv (.c .nsl), none⟩])
 .ret)
 .skip))
 (.seq (.reg [⟨(some 5), .bsl 1 [], none⟩,
 ⟨(some 6), .mv (.t 0), none⟩,
 ⟨(some 7), .app 1 3 (.t 5) (.t 6), none⟩,
 ⟨(some 2), .mv (.t 7), none⟩])
 .ret))) }
def c_store_change : Fun := { cin := [(.sl 6 (.agg [.id, .id, (.sl 1 .id), (.sl 1 .id), .id, .id])), .id, .id, .id], cout := [(.sl 6 (.agg [.id, .id, (.sl 1 .id), (.sl 1 .id), .id, .id])), .id], ntmps := 42, keep := false, res := [(8, none), (9, none)], body :=
 (.seq (.reg [⟨(some 8), .mv (.c .nsl), none⟩,
 ⟨(some 9), .mv (.c (.i .i64 0)), none⟩])
 (.seq (.blk 0 (.seq (.reg [⟨(some 13), .mv (.t 0), none⟩,
 ⟨(some 14), .call f_pat_May [(.t 13)], none⟩,
 ⟨(some 15), .un .not (.t 14), none⟩,
 ⟨(some 12), .mv (.t 15), none⟩])
 (.cond (.t 12)
 (.seq (.reg [⟨(some 8), .mv (.c .nsl), none⟩,
 ⟨(some 9), .mv (.c (.i .i64 4)), none⟩])
 .ret)
 (.seq (.reg [⟨(some 17), .mv (.t 1), none⟩,
 ⟨(some 18), .bin .lss (.t 17) (.c (.i .i64 0)), none⟩,
 ⟨(some 19), .mv (.t 18), none⟩,
 ⟨(some 20), .mv (.t 1), (some (19, false))⟩,
 ⟨(some 21), .mv (.t 0), (some (19, false))⟩,
 ⟨(some 22), .len 1 (.t 21), (some (19, false))⟩,
 ⟨(some 23), .bin .geq (.t 20) (.t 22), (some (19, false))⟩,
 ⟨(some 24), .pick (.t 19) (.c (.b true)) (.t 23), none⟩,
 ⟨(some 16), .mv (.t 24), none⟩])
 (.cond (.t 16)
 (.seq (.reg [⟨(some 8), .mv (.c .nsl), none⟩,
 ⟨(some 9), .mv (.c (.i .i64 1)), none⟩])
 .ret)
 .skip)))))
 (.seq (.seq (.reg [⟨(some 25), .mv (.t 2), none⟩,
 ⟨(some 26), .mv (.t 0), none⟩,
 ⟨(some 27), .mv (.t 1), none⟩,
 ⟨(some 28), .ia 6 (.t 26) (.t 27), none⟩,
 ⟨(some 29), .ld true 6 (.t 28), none⟩,
 ⟨(some 30), .callX (.t 25) [(.t 29)], none⟩,
 ⟨(some 10), .mv (.t 30), none⟩])
 (.seq (.reg [⟨(some 31), .mv (.t 10), none⟩,
 ⟨(some 32), .bin .neq (.t 31) (.c (.i .i64 0)), none⟩])
 (.cond (.t 32)
 (.seq (.reg [⟨(some 33), .mv (.t 10), none⟩,
 ⟨(some 8), .mv (.c .nsl), none⟩,
 ⟨(some 9), .mv (.t 33), none⟩])
 .ret)
 .skip)))
 (.seq (.reg [⟨(some 34), .mv (.t 0), none⟩,
 ⟨(some 35), .call f_store_own [(.t 34)], none⟩,
 ⟨(some 11), .mv (.t 35), none⟩])
 (.seq (.seq (.thw 11)
 (.reg [⟨(some 36), .mv (.t 3), none⟩,
 ⟨(some 37), .mv (.t 11), none⟩,
 ⟨(some 38), .mv (.t 1), none⟩,
 ⟨(some 39), .ia 6 (.t 37) (.t 38), none⟩,
 ⟨(some 40), .callX (.t 36) [(.t 39)], none⟩]))
 (.seq (.reg [⟨(some 41), .mv (.t 11), none⟩,
 ⟨(some 8), .mv (.t 41), none⟩,
 ⟨(some 9), .mv (.c (.i .i64 0)), none⟩])
 .ret)))))) }
def c_store_dir : Fun := { cin := [(.agg [.id, .id, (.sl 1 .id), (.sl 1 .id), .id, .id])], cout := [.id], ntmps := 10, keep := false, res := [(2, none)], body :=
 (.seq (.reg [⟨(some 1), .box 84 6 (.t 0), none⟩,
 ⟨(some 2), .mv (.c (.b false)), none⟩])
 (.seq (.reg [⟨(some 3), .fa 0 (.t 1), none⟩,
 ⟨(some 4), .ld false 1 (.t 3), none⟩,
 ⟨(some 5), .mv (.t 4), none⟩,
 ⟨(some 6), .fa 1 (.t 1), (some (5, true))⟩,
 ⟨(some 7), .ld false 1 (.t 6), (some (5, true))⟩,
 ⟨(some 8), .bin .eql (.t 7) (.c (.i .u8 2)), (some (5, true))⟩,
 ⟨(some 9), .pick (.t 5) (.t 8) (.c (.b false)), none⟩,
 ⟨(some 2), .mv (.t 9), none⟩])
 .ret)) }
def c_prim_put_1 : Fun := { cin := [], cout := [.id], ntmps := 17, keep := false, res := [(3, none)], body :=
 (.seq (.reg [⟨(some 3), .mv (.c (.i .i64 0)), none⟩])
 (.seq (.blk 0 (.seq (.reg [⟨(some 5), .ld true 4 (.t 0), none⟩,
 ⟨(some 6), .call f_ftree_Well [(.t 5)], none⟩,
 ⟨(some 7), .un .not (.t 6), none⟩,
 ⟨(some 4), .mv (.t 7), none⟩])
 (.cond (.t 4)
 (.seq (.reg [⟨(some 3), .mv (.c (.i .i64 4)), none⟩])
 .ret)
 (.seq (.reg [⟨(some 9), .ld false 1 (.t 1), none⟩,
 ⟨(some 10), .ld false 1 (.t 2), none⟩,
 ⟨(some 11), .inv [(17, f_internal_abi_Type_Kind), (29, f_ftree_Tree_Kind), (216, f_sym_Tree_Kind)] (.t 9) [(.t 10)], none⟩,
 ⟨(some 12), .bin .neq (.t 11) (.c (.i .u8 0)), none⟩,
 ⟨(some 8), .mv (.t 12), none⟩])
 (.cond (.t 8)
 (.seq (.reg [⟨(some 3), .mv (.c (.i .i64 6)), none⟩])
 .ret)
 .skip)))))
 (.seq (.reg [⟨(some 13), .ld false 1 (.t 1), none⟩,
 ⟨(some 14), .ld false 1 (.t 2), none⟩,
 ⟨(some 15), .ld true 4 (.t 0), none⟩,
 ⟨(some 16), .inv [(29, f_ftree_Tree_Put), (216, f_sym_Tree_Put)] (.t 13) [(.t 14), (.t 15)], none⟩])
 (.seq (.reg [⟨(some 3), .mv (.c (.i .i64 0)), none⟩])
 .ret)))) }
def c_prim_remove_1 : Fun := { cin := [], cout := [.id], ntmps := 20, keep := false, res := [(3, none)], body :=
 (.seq (.reg [⟨(some 3), .mv (.c (.i .i64 0)), none⟩])
 (.seq (.reg [⟨(some 6), .ld false 1 (.t 0), none⟩,
 ⟨(some 7), .ld false 1 (.t 1), none⟩,
 ⟨(some 8), .inv [(17, f_internal_abi_Type_Kind), (29, f_ftree_Tree_Kind), (216, f_sym_Tree_Kind)] (.t 6) [(.t 7)], none⟩,
 ⟨(some 4), .mv (.t 8), none⟩])
 (.seq (.seq (.reg [⟨(some 9), .mv (.t 4), none⟩,
 ⟨(some 10), .bin .eql (.t 9) (.c (.i .u8 0)), none⟩])
 (.cond (.t 10)
 (.seq (.reg [⟨(some 3), .mv (.c (.i .i64 5)), none⟩])
 .ret)
 .skip))
 (.seq (.seq (.reg [⟨(some 11), .ld false 1 (.t 2), none⟩,
 ⟨(some 12), .mv (.t 4), none⟩,
 ⟨(some 13), .callX (.t 11) [(.t 12)], none⟩,
 ⟨(some 5), .mv (.t 13), none⟩])
 (.seq (.reg [⟨(some 14), .mv (.t 5), none⟩,
 ⟨(some 15), .bin .neq (.t 14) (.c (.i .i64 0)), none⟩])
 (.cond (.t 15)
 (.seq (.reg [⟨(some 16), .mv (.t 5), none⟩,
 ⟨(some 3), .mv (.t 16), none⟩])
 .ret)
 .skip)))
 (.seq (.reg [⟨(some 17), .ld false 1 (.t 0), none⟩,
 ⟨(some 18), .ld false 1 (.t 1), none⟩,
 ⟨(some 19), .inv [(29, f_ftree_Tree_Del), (216, f_sym_Tree_Del)] (.t 17) [(.t 18)], none⟩])
 (.seq (.reg [⟨(some 3), .mv (.c (.i .i64 0)), none⟩])
 .ret)))))) }
def c_prim_taken : Fun := { cin := [.id, (.sl 1 .id)], cout := [.id], ntmps := 29, keep := false, res := [(4, none)], body :=
 (.seq (.reg [⟨(some 4), .mv (.c (.b false)), none⟩])
 (.seq (.reg [⟨(some 6), .mv (.t 1), none⟩,
 ⟨(some 7), .len 1 (.t 6), none⟩,
 ⟨(some 8), .bin .sub (.t 7) (.c (.i .i64 1)), none⟩,
 ⟨(some 5), .mv (.t 8), none⟩])
 (.seq (.regD [⟨(some 9), .mv (.t 5), none⟩,
 ⟨(some 10), .bin .lss (.t 9) (.c (.i .i64 0)), none⟩,
 ⟨(some 11), .mv (.t 10), none⟩,
 ⟨(some 12), .mv (.t 1), (some (11, false))⟩,
 ⟨(some 13), .mv (.t 5), (some (11, false))⟩,
 ⟨(some 14), .ia 1 (.t 12) (.t 13), (some (11, false))⟩,
 ⟨(some 15), .ld false 1 (.t 14), (some (11, false))⟩,
 ⟨(some 16), .call f_path_Name [(.t 15)], (some (11, false))⟩,
 ⟨(some 17), .mv (.t 16), (some (11, false))⟩,
 ⟨(some 18), .mv (.t 0), (some (17, true))⟩,
 ⟨(some 19), .mv (.t 1), (some (17, true))⟩,
 ⟨(some 20), .mv (.t 5), (some (17, true))⟩,
 ⟨(some 21), .slc false 1 (.t 19) none (some (.t 20)) none, (some (17, true))⟩,
 ⟨(some 22), .mkM [75, 105, 110, 100] (.t 18), (some (17, true))⟩,
 ⟨(some 23), .nckM [75, 105, 110, 100] [(17, f_internal_abi_Type_Kind), (29, f_ftree_Tree_Kind), (216, f_sym_Tree_Kind)] (.t 22), (some (17, true))⟩,
 ⟨(some 24), .mv (.t 18), (some (17, true))⟩,
 ⟨(some 25), .inv [(17, f_internal_abi_Type_Kind), (29, f_ftree_Tree_Kind), (216, f_sym_Tree_Kind)] (.t 24) [(.t 21)], (some (17, true))⟩,
 ⟨(some 26), .bin .eql (.t 25) (.c (.i .u8 2)), (some (17, true))⟩,
 ⟨(some 27), .pick (.t 17) (.t 26) (.c (.b false)), (some (11, false))⟩,
 ⟨(some 28), .pick (.t 11) (.c (.b true)) (.t 27), none⟩,
 ⟨(some 4), .mv (.t 28), none⟩] [])
 .ret))) }
def c_unicode_utf8_ValidRune : Fun := { cin := [.id], cout := [.id], ntmps := 17, keep := false, res := [(2, none)], body :=
 (.seq (.reg [⟨(some 2), .mv (.c (.b false)), none⟩])
 (.seq (.blk 0 (.seq (.reg [⟨(some 4), .mv (.t 0), none⟩,
 ⟨(some 5), .bin .leq (.c (.i .i32 0)) (.t 4), none⟩,
 ⟨(some 6), .mv (.t 5), none⟩,
 ⟨(some 7), .mv (.t 0), (some (6, true))⟩,
 ⟨(some 8), .bin .lss (.t 7) (.c (.i .i32 55296)), (some (6, true))⟩,
 ⟨(some 9), .pick (.t 6) (.t 8) (.c (.b false)), none⟩,
 ⟨(some 3), .mv (.t 9), none⟩])
 (.cond (.t 3)
 (.seq (.reg [⟨(some 2), .mv (.c (.b true)), none⟩])
 .ret)
 (.seq (.reg [⟨(some 11), .mv (.t 0), none⟩,
 ⟨(some 12), .bin .lss (.c (.i .i32 57343)) (.t 11), none⟩,
 ⟨(some 13), .mv (.t 12), none⟩,
 ⟨(some 14), .mv (.t 0), (some (13, true))⟩,
 ⟨(some 15), .bin .leq (.t 14) (.c (.i .i32 1114111)), (some (13, true))⟩,
 ⟨(some 16), .pick (.t 13) (.t 15) (.c (.b false)), none⟩,
 ⟨(some 10), .mv (.t 16), none⟩])
 (.cond (.t 10)
 (.seq (.reg [⟨(some 2), .mv (.c (.b true)), none⟩])
 .ret)
 .skip)))))
 (.seq (.reg [⟨(some 2), .mv (.c (.b false)), none⟩])
 .ret))) }
def c_internal_bytealg_hashStr_string : Fun := { cin := [.id], cout := [.id, .id], ntmps := 39, keep := false, res := [(2, none), (3, none)], body :=
 (.seq (.reg [⟨(some 2), .mv (.c (.i .u32 0)), none⟩,
 ⟨(some 3), .mv (.c (.i .u32 0)), none⟩])
 (.seq (.reg [⟨(some 4), .mv (.c (.i .u32 0)), none⟩])
 (.seq (.seq (.reg [⟨(some 5), .mv (.c (.i .i64 0)), none⟩])
 (.blk 0 (.loop (.seq (.seq (.reg [⟨(some 9), .mv (.t 5), none⟩,
 ⟨(some 10), .mv (.t 0), none⟩,
 ⟨(some 11), .len 0 (.t 10), none⟩,
 ⟨(some 12), .bin .lss (.t 9) (.t 11), none⟩])
 (.cond (.t 12)
 .skip
 (.exit 0)))
 (.seq (.blk 1 (.reg [⟨(some 15), .mv (.t 4), none⟩,
 ⟨(some 16), .bin .mul (.t 15) (.c (.i .u32 16777619)), none⟩,
 ⟨(some 17), .mv (.t 0), none⟩,
 ⟨(some 18), .mv (.t 5), none⟩,
 ⟨(some 19), .ixS (.t 17) (.t 18), none⟩,
 ⟨(some 20), .cvI .u32 (.t 19), none⟩,
 ⟨(some 21), .bin .add (.t 16) (.t 20), none⟩,
 ⟨(some 4), .mv (.t 21), none⟩]))
 (.reg [⟨(some 13), .mv (.t 5), none⟩,
 ⟨(some 14), .bin .add (.t 13) (.c (.i .i64 1)), none⟩,
 ⟨(some 5), .mv (.t 14), none⟩]))))))
 (.seq (.reg [⟨(some 6), .mv (.c (.i .u32 1)), none⟩,
 ⟨(some 7), .mv (.c (.i .u32 16777619)), none⟩])
 (.seq (.seq (.reg [⟨(some 22), .mv (.t 0), none⟩,
 ⟨(some 23), .len 0 (.t 22), none⟩,
 ⟨(some 8), .mv (.t 23), none⟩])
 (.blk 2 (.loop (.seq (.seq (.reg [⟨(some 24), .mv (.t 8), none⟩,
 ⟨(some 25), .bin .gtr (.t 24) (.c (.i .i64 0)), none⟩])
 (.cond (.t 25)
 .skip
 (.exit 2)))
 (.seq (.blk 3 (.seq (.seq (.reg [⟨(some 28), .mv (.t 8), none⟩,
 ⟨(some 29), .bin .and (.t 28) (.c (.i .i64 1)), none⟩,
 ⟨(some 30), .bin .neq (.t 29) (.c (.i .i64 0)), none⟩])
 (.cond (.t 30)
 (.reg [⟨(some 31), .mv (.t 6), none⟩,
 ⟨(some 32), .mv (.t 7), none⟩,
 ⟨(some 33), .bin .mul (.t 31) (.t 32), none⟩,
 ⟨(some 6), .mv (.t 33), none⟩])
 .skip))
 (.reg [⟨(some 34), .mv (.t 7), none⟩,
 ⟨(some 35), .mv (.t 7), none⟩,
 ⟨(some 36), .bin .mul (.t 34) (.t 35), none⟩,
 ⟨(some 7), .mv (.t 36), none⟩])))
 (.reg [⟨(some 26), .mv (.t 8), none⟩,
 ⟨(some 27), .bin .shr (.t 26) (.c (.i .u64 1)), none⟩,
 ⟨(some 8), .mv (.t 27), none⟩]))))))
 (.seq (.reg [⟨(some 37), .mv (.t 4), none⟩,
 ⟨(some 38), .mv (.t 6), none⟩,
 ⟨(some 2), .mv (.t 37), none⟩,
 ⟨(some 3), .mv (.t 38), none⟩])
 .ret)))))) }
def c_unicode_utf8_decodeRuneInStringSlow : Fun := { cin := [.id], cout := [.id, .id], ntmps := 117, keep := false, res := [(2, none), (3, none)], body :=
 (.seq (.reg [⟨(some 2), .mv (.c (.i .i32 0)), none⟩,
 ⟨(some 3), .mv (.c (.i .i64 0)), none⟩])
 (.seq (.reg [⟨(some 13), .mv (.t 0), none⟩,
 ⟨(some 14), .len 0 (.t 13), none⟩,
 ⟨(some 4), .mv (.t 14), none⟩])
 (.seq (.seq (.reg [⟨(some 15), .mv (.t 4), none⟩,
 ⟨(some 16), .bin .lss (.t 15) (.c (.i .i64 1)), none⟩])
 (.cond (.t 16)
 (.seq (.reg [⟨(some 2), .mv (.c (.i .i32 65533)), none⟩,
 ⟨(some 3), .mv (.c (.i .i64 0)), none⟩])
 .ret)
 .skip))
 (.seq (.reg [⟨(some 17), .mv (.t 0), none⟩,
 ⟨(some 18), .ixS (.t 17) (.c (.i .i64 0)), none⟩,
 ⟨(some 5), .mv (.t 18), none⟩])
 (.seq (.reg [⟨(some 19), .mv (.t 5), none⟩,
 ⟨(some 20), .bad, none⟩,
 ⟨(some 21), .ld false 1 (.t 20), none⟩,
 ⟨(some 6), .mv (.t 21), none⟩])
 (.seq (.seq (.reg [⟨(some 22), .mv (.t 6), none⟩,
 ⟨(some 23), .bin .geq (.t 22) (.c (.i .u8 240)), none⟩])
 (.cond (.t 23)
 (.seq (.reg [⟨(some 24), .mv (.t 6), none⟩,
 ⟨(some 25), .cvI .i32 (.t 24), none⟩,
 ⟨(some 26), .bin .shl (.t 25) (.c (.i .u64 31)), none⟩,
 ⟨(some 27), .bin .shr (.t 26) (.c (.i .u64 31)), none⟩,
 ⟨(some 7), .mv (.t 27), none⟩])
 (.seq (.reg [⟨(some 28), .mv (.t 0), none⟩,
 ⟨(some 29), .ixS (.t 28) (.c (.i .i64 0)), none⟩,
 ⟨(some 30), .cvI .i32 (.t 29), none⟩,
 ⟨(some 31), .mv (.t 7), none⟩,
 ⟨(some 32), .bin .andNot (.t 30) (.t 31), none⟩,
 ⟨(some 33), .mv (.t 7), none⟩,
 ⟨(some 34), .bin .and (.c (.i .i32 65533)) (.t 33), none⟩,
 ⟨(some 35), .bin .or (.t 32) (.t 34), none⟩,
 ⟨(some 2), .mv (.t 35), none⟩,
 ⟨(some 3), .mv (.c (.i .i64 1)), none⟩])
 .ret))
 .skip))
 (.seq (.reg [⟨(some 36), .mv (.t 6), none⟩,
 ⟨(some 37), .bin .and (.t 36) (.c (.i .u8 7)), none⟩,
 ⟨(some 38), .cvI .i64 (.t 37), none⟩,
 ⟨(some 8), .mv (.t 38), none⟩])
 (.seq (.reg [⟨(some 39), .mv (.t 6), none⟩,
 ⟨(some 40), .bin .shr (.t 39) (.c (.i .u64 4)), none⟩,
 ⟨(some 41), .bad, none⟩,
 ⟨(some 42), .ld true 2 (.t 41), none⟩,
 ⟨(some 9), .alloc 330 [(.i .u8 0), (.i .u8 0)], none⟩,
 ⟨none, .st 2 (.t 9) (.t 42), none⟩])
 (.seq (.seq (.reg [⟨(some 43), .mv (.t 4), none⟩,
 ⟨(some 44), .mv (.t 8), none⟩,
 ⟨(some 45), .bin .lss (.t 43) (.t 44), none⟩])
 (.cond (.t 45)
 (.seq (.reg [⟨(some 2), .mv (.c (.i .i32 65533)), none⟩,
 ⟨(some 3), .mv (.c (.i .i64 1)), none⟩])
 .ret)
 .skip))
 (.seq (.reg [⟨(some 46), .mv (.t 0), none⟩,
 ⟨(some 47), .ixS (.t 46) (.c (.i .i64 1)), none⟩,
 ⟨(some 10), .mv (.t 47), none⟩])
 (.seq (.seq (.reg [⟨(some 48), .mv (.t 10), none⟩,
 ⟨(some 49), .fa 0 (.t 9), none⟩,
 ⟨(some 50), .ld false 1 (.t 49), none⟩,
 ⟨(some 51), .bin .lss (.t 48) (.t 50), none⟩,
 ⟨(some 52), .mv (.t 51), none⟩,
 ⟨(some 53), .fa 1 (.t 9), (some (52, false))⟩,
 ⟨(some 54), .ld false 1 (.t 53), (some (52, false))⟩,
 ⟨(some 55), .mv (.t 10), (some (52, false))⟩,
 ⟨(some 56), .bin .lss (.t 54) (.t 55), (some (52, false))⟩,
 ⟨(some 57), .pick (.t 52) (.c (.b true)) (.t 56), none⟩])
 (.cond (.t 57)
 (.seq (.reg [⟨(some 2), .mv (.c (.i .i32 65533)), none⟩,
 ⟨(some 3), .mv (.c (.i .i64 1)), none⟩])
 .ret)
 .skip))
 (.seq (.seq (.reg [⟨(some 58), .mv (.t 8), none⟩,
 ⟨(some 59), .bin .leq (.t 58) (.c (.i .i64 2)), none⟩])
 (.cond (.t 59)
 (.seq (.reg [⟨(some 60), .mv (.t 5), none⟩,
 ⟨(some 61), .bin .and (.t 60) (.c (.i .u8 31)), none⟩,
 ⟨(some 62), .cvI .i32 (.t 61), none⟩,
 ⟨(some 63), .bin .shl (.t 62) (.c (.i .u64 6)), none⟩,
 ⟨(some 64), .mv (.t 10), none⟩,
 ⟨(some 65), .bin .and (.t 64) (.c (.i .u8 63)), none⟩,
 ⟨(some 66), .cvI .i32 (.t 65), none⟩,
 ⟨(some 67), .bin .or (.t 63) (.t 66), none⟩,
 ⟨(some 2), .mv (.t 67), none⟩,
 ⟨(some 3), .mv (.c (.i .i64 2)), none⟩])
 .ret)
 .skip))
 (.seq (.reg [⟨(some 68), .mv (.t 0), none⟩,
 ⟨(some 69), .ixS (.t 68) (.c (.i .i64 2)), none⟩,
 ⟨(some 11), .mv (.t 69), none⟩])
 (.seq (.seq (.reg [⟨(some 70), .mv (.t 11), none⟩,
 ⟨(some 71), .bin .lss (.t 70) (.c (.i .u8 128)), none⟩,
 ⟨(some 72), .mv (.t 71), none⟩,
 ⟨(some 73), .mv (.t 11), (some (72, false))⟩,
 ⟨(some 74), .bin .lss (.c (.i .u8 191)) (.t 73), (some (72, false))⟩,
 ⟨(some 75), .pick (.t 72) (.c (.b true)) (.t 74), none⟩])
 (.cond (.t 75)
 (.seq (.reg [⟨(some 2), .mv (.c (.i .i32 65533)), none⟩,
 ⟨(some 3), .mv (.c (.i .i64 1)), none⟩])
 .ret)
 .skip))
 (.seq (.seq (.reg [⟨(some 76), .mv (.t 8), none⟩,
 ⟨(some 77), .bin .leq (.t 76) (.c (.i .i64 3)), none⟩])
 (.cond (.t 77)
 (.seq (.reg [⟨(some 78), .mv (.t 5), none⟩,
 ⟨(some 79), .bin .and (.t 78) (.c (.i .u8 15)), none⟩,
 ⟨(some 80), .cvI .i32 (.t 79), none⟩,
 ⟨(some 81), .bin .shl (.t 80) (.c (.i .u64 12)), none⟩,
 ⟨(some 82), .mv (.t 10), none⟩,
 ⟨(some 83), .bin .and (.t 82) (.c (.i .u8 63)), none⟩,
 ⟨(some 84), .cvI .i32 (.t 83), none⟩,
 ⟨(some 85), .bin .shl (.t 84) (.c (.i .u64 6)), none⟩,
 ⟨(some 86), .bin .or (.t 81) (.t 85), none⟩,
 ⟨(some 87), .mv (.t 11), none⟩,
 ⟨(some 88), .bin .and (.t 87) (.c (.i .u8 63)), none⟩,
 ⟨(some 89), .cvI .i32 (.t 88), none⟩,
 ⟨(some 90), .bin .or (.t 86) (.t 89), none⟩,
 ⟨(some 2), .mv (.t 90), none⟩,
 ⟨(some 3), .mv (.c (.i .i64 3)), none⟩])
 .ret)
 .skip))
 (.seq (.reg [⟨(some 91), .mv (.t 0), none⟩,
 ⟨(some 92), .ixS (.t 91) (.c (.i .i64 3)), none⟩,
 ⟨(some 12), .mv (.t 92), none⟩])
 (.seq (.seq (.reg [⟨(some 93), .mv (.t 12), none⟩,
 ⟨(some 94), .bin .lss (.t 93) (.c (.i .u8 128)), none⟩,
 ⟨(some 95), .mv (.t 94), none⟩,
 ⟨(some 96), .mv (.t 12), (some (95, false))⟩,
 ⟨(some 97), .bin .lss (.c (.i .u8 191)) (.t 96), (some (95, false))⟩,
 ⟨(some 98), .pick (.t 95) (.c (.b true)) (.t 97), none⟩])
 (.cond (.t 98)
 (.seq (.reg [⟨(some 2), .mv (.c (.i .i32 65533)), none⟩,
 ⟨(some 3), .mv (.c (.i .i64 1)), none⟩])
 .ret)
 .skip))
 (.seq (.reg [⟨(some 99), .mv (.t 5), none⟩,
 ⟨(some 100), .bin .and (.t 99) (.c (.i .u8 7)), none⟩,
 ⟨(some 101), .cvI .i32 (.t 100), none⟩,
 ⟨(some 102), .bin .shl (.t 101) (.c (.i .u64 18)), none⟩,
 ⟨(some 103), .mv (.t 10), none⟩,
 ⟨(some 104), .bin .and (.t 103) (.c (.i .u8 63)), none⟩,
 ⟨(some 105), .cvI .i32 (.t 104), none⟩,
 ⟨(some 106), .bin .shl (.t 105) (.c (.i .u64 12)), none⟩,
 ⟨(some 107), .bin .or (.t 102) (.t 106), none⟩,
 ⟨(some 108), .mv (.t 11), none⟩,
 ⟨(some 109), .bin .and (.t 108) (.c (.i .u8 63)), none⟩,
 ⟨(some 110), .cvI .i32 (.t 109), none⟩,
 ⟨(some 111), .bin .shl (.t 110) (.c (.i .u64 6)), none⟩,
 ⟨(some 112), .bin .or (.t 107) (.t 111), none⟩,
 ⟨(some 113), .mv (.t 12), none⟩,
 ⟨(some 114), .bin .and (.t 113) (.c (.i .u8 63)), none⟩,
 ⟨(some 115), .cvI .i32 (.t 114), none⟩,
 ⟨(some 116), .bin .or (.t 112) (.t 115), none⟩,
 ⟨(some 2), .mv (.t 116), none⟩,
 ⟨(some 3), .mv (.c (.i .i64 4)), none⟩])
 .ret)))))))))))))))))) }
def c_slices_nextPowerOfTwo : Fun := { cin := [.id], cout := [.id], ntmps := 7, keep := false, res := [(2, none)], body :=
 (.seq (.reg [⟨(some 2), .mv (.c (.i .u64 0)), none⟩])
 (.seq (.reg [⟨(some 3), .mv (.t 0), none⟩,
 ⟨(some 4), .cvI .u64 (.t 3), none⟩,
 ⟨(some 5), .call f_math_bits_Len [(.t 4)], none⟩,
 ⟨(some 6), .bin .shl (.c (.i .u64 1)) (.t 5), none⟩,
 ⟨(some 2), .mv (.t 6), none⟩])
 .ret)) }
def c_slices_xorshift_Next : Fun := { cin := [.id], cout := [.id], ntmps := 33, keep := false, res := [(2, none)], body :=
 (.seq (.reg [⟨(some 2), .mv (.c (.i .u64 0)), none⟩])
 (.seq (.regD [⟨(some 3), .mv (.t 0), none⟩,
 ⟨(some 4), .nck (.t 3), none⟩,
 ⟨(some 5), .ld false 1 (.t 4), none⟩,
 ⟨(some 6), .mv (.t 0), none⟩,
 ⟨(some 7), .nck (.t 6), none⟩,
 ⟨(some 8), .ld false 1 (.t 7), none⟩,
 ⟨(some 9), .bin .shl (.t 8) (.c (.i .u64 13)), none⟩,
 ⟨(some 10), .bin .xor (.t 5) (.t 9), none⟩,
 ⟨(some 11), .nck (.t 3), none⟩,
 ⟨none, .st 1 (.t 11) (.t 10), none⟩] [])
 (.seq (.regD [⟨(some 12), .mv (.t 0), none⟩,
 ⟨(some 13), .nck (.t 12), none⟩,
 ⟨(some 14), .ld false 1 (.t 13), none⟩,
 ⟨(some 15), .mv (.t 0), none⟩,
 ⟨(some 16), .nck (.t 15), none⟩,
 ⟨(some 17), .ld false 1 (.t 16), none⟩,
 ⟨(some 18), .bin .shr (.t 17) (.c (.i .u64 7)), none⟩,
 ⟨(some 19), .bin .xor (.t 14) (.t 18), none⟩,
 ⟨(some 20), .nck (.t 12), none⟩,
 ⟨none, .st 1 (.t 20) (.t 19), none⟩] [])
 (.seq (.regD [⟨(some 21), .mv (.t 0), none⟩,
 ⟨(some 22), .nck (.t 21), none⟩,
 ⟨(some 23), .ld false 1 (.t 22), none⟩,
 ⟨(some 24), .mv (.t 0), none⟩,
 ⟨(some 25), .nck (.t 24), none⟩,
 ⟨(some 26), .ld false 1 (.t 25), none⟩,
 ⟨(some 27), .bin .shl (.t 26) (.c (.i .u64 17)), none⟩,
 ⟨(some 28), .bin .xor (.t 23) (.t 27), none⟩,
 ⟨(some 29), .nck (.t 21), none⟩,
 ⟨none, .st 1 (.t 29) (.t 28), none⟩] [])
 (.seq (.reg [⟨(some 30), .mv (.t 0), none⟩,
 ⟨(some 31), .nck (.t 30), none⟩,
 ⟨(some 32), .ld false 1 (.t 31), none⟩,
 ⟨(some 2), .mv (.t 32), none⟩])
 .ret))))) }
def c_store_own : Fun := { cin := [(.sl 6 (.agg [.id, .id, (.sl 1 .id), (.sl 1 .id), .id, .id]))], cout := [], ntmps := 31, keep := true, res := [(2, none)], body :=
 (.seq (.reg [⟨(some 2), .mv (.c .nsl), none⟩])
 (.seq (.reg [⟨(some 6), .mv (.t 0), none⟩,
 ⟨(some 7), .call f_slices_Clone_api_Fact_api_Fact [(.t 6)], none⟩,
 ⟨(some 3), .mv (.t 7), none⟩])
 (.seq (.seq (.reg [⟨(some 8), .mv (.t 0), none⟩,
 ⟨(some 9), .len 1 (.t 8), none⟩,
 ⟨(some 10), .mv (.c (.i .i64 0)), none⟩])
 (.blk 0 (.loop (.seq (.reg [⟨(some 11), .bin .lss (.t 10) (.t 9), none⟩])
 (.seq (.cond (.t 11)
 .skip
 (.exit 0))
 (.seq (.blk 1 (.seq (.reg [⟨(some 12), .mv (.t 10), none⟩,
 ⟨(some 13), .ia 6 (.t 8) (.t 10), none⟩,
 ⟨(some 14), .ld true 6 (.t 13), none⟩,
 ⟨(some 5), .alloc 84 [(.b false), (.i .u8 0), .nsl, .nsl, (.i .i64 0), (.i .i64 0)], none⟩,
 ⟨(some 4), .mv (.t 12), none⟩,
 ⟨none, .st 6 (.t 5) (.t 14), none⟩])
 (.seq (.thw 3)
 (.regD [⟨(some 15), .mv (.t 3), none⟩,
 ⟨(some 16), .mv (.t 4), none⟩,
 ⟨(some 17), .mv (.t 3), none⟩,
 ⟨(some 18), .mv (.t 4), none⟩,
 ⟨(some 19), .fa 2 (.t 5), none⟩,
 ⟨(some 20), .ld false 1 (.t 19), none⟩,
 ⟨(some 21), .call f_slices_Clone_string_string [(.t 20)], none⟩,
 ⟨(some 22), .fa 3 (.t 5), none⟩,
 ⟨(some 23), .ld false 1 (.t 22), none⟩,
 ⟨(some 24), .call f_slices_Clone_int_int [(.t 23)], none⟩,
 ⟨(some 25), .ia 6 (.t 15) (.t 16), none⟩,
 ⟨(some 26), .fa 2 (.t 25), none⟩,
 ⟨none, .st 1 (.t 26) (.t 21), none⟩,
 ⟨(some 27), .ia 6 (.t 17) (.t 18), none⟩,
 ⟨(some 28), .fa 3 (.t 27), none⟩,
 ⟨none, .st 1 (.t 28) (.t 24), none⟩] [(8, (6, 8))]))))
 (.reg [⟨(some 29), .bin .add (.t 10) (.c (.i .i64 1)), none⟩,
 ⟨(some 10), .mv (.t 29), none⟩])))))))
 (.seq (.reg [⟨(some 30), .mv (.t 3), none⟩,
 ⟨(some 2), .mv (.t 30), none⟩])
 .ret)))) }
def c_slices_Sorted_int : Fun := { cin := [.id], cout := [(.sl 1 .id)], ntmps := 9, keep := false, res := [(2, none)], body :=
 (.seq (.reg [⟨(some 2), .mv (.c .nsl), none⟩])
 (.seq (.reg [⟨(some 4), .mv (.t 0), none⟩,
 ⟨(some 5), .call f_slices_Collect_int [(.t 4)], none⟩,
 ⟨(some 3), .mv (.t 5), none⟩])
 (.seq (.seq (.thw 3)
 (.reg [⟨(some 6), .mv (.t 3), none⟩,
 ⟨(some 7), .call f_slices_Sort_int_int [(.t 6)], none⟩]))
 (.seq (.reg [⟨(some 8), .mv (.t 3), none⟩,
 ⟨(some 2), .mv (.t 8), none⟩])
 .ret)))) }
def c_slices_Values_int_int : Fun := { cin := [(.sl 1 .id)], cout := [.id], ntmps := 4, keep := false, res := [(2, none)], body :=
 (.seq (.reg [⟨(some 1), .box 82 1 (.t 0), none⟩,
 ⟨(some 2), .mv (.c .nf), none⟩])
 (.seq (.reg [⟨(some 3), .mkf f_slices_Values_int_int_1 [(.t 1)], none⟩,
 ⟨(some 2), .mv (.t 3), none⟩])
 .ret)) }
def c_sym_Same : Fun := { cin := [(.agg [.id, .id, .id, .id, (.sl 1 .id), (.sl 6 (.agg [.id, .id, .id, .id, (.sl 1 .id), (.sl 6 (.agg [.id, .id, .id, .id, (.sl 1 .id), (.sl 6 .id)]))]))]), (.agg [.id, .id, .id, .id, (.sl 1 .id), (.sl 6 (.agg [.id, .id, .id, .id, (.sl 1 .id), (.sl 6 (.agg [.id, .id, .id, .id, (.sl 1 .id), (.sl 6 .id)]))]))])], cout := [.id], ntmps := 45, keep := false, res := [(4, none)], body :=
 (.seq (.reg [⟨(some 2), .box 91 6 (.t 0), none⟩,
 ⟨(some 3), .box 91 6 (.t 1), none⟩,
 ⟨(some 4), .mv (.c (.b false)), none⟩])
 (.seq (.reg [⟨(some 5), .fa 0 (.t 2), none⟩,
 ⟨(some 6), .ld false 1 (.t 5), none⟩,
 ⟨(some 7), .fa 0 (.t 3), none⟩,
 ⟨(some 8), .ld false 1 (.t 7), none⟩,
 ⟨(some 9), .bin .eql (.t 6) (.t 8), none⟩,
 ⟨(some 10), .mv (.t 9), none⟩,
 ⟨(some 11), .fa 1 (.t 2), (some (10, true))⟩,
 ⟨(some 12), .ld false 1 (.t 11), (some (10, true))⟩,
 ⟨(some 13), .fa 1 (.t 3), (some (10, true))⟩,
 ⟨(some 14), .ld false 1 (.t 13), (some (10, true))⟩,
 ⟨(some 15), .bin .eql (.t 12) (.t 14), (some (10, true))⟩,
 ⟨(some 16), .pick (.t 10) (.t 15) (.c (.b false)), none⟩,
 ⟨(some 17), .mv (.t 16), none⟩,
 ⟨(some 18), .fa 2 (.t 2), (some (17, true))⟩,
 ⟨(some 19), .ld false 1 (.t 18), (some (17, true))⟩,
 ⟨(some 20), .fa 2 (.t 3), (some (17, true))⟩,
 ⟨(some 21), .ld false 1 (.t 20), (some (17, true))⟩,
 ⟨(some 22), .bin .eql (.t 19) (.t 21), (some (17, true))⟩,
 ⟨(some 23), .pick (.t 17) (.t 22) (.c (.b false)), none⟩,
 ⟨(some 24), .mv (.t 23), none⟩,
 ⟨(some 25), .fa 3 (.t 2), (some (24, true))⟩,
 ⟨(some 26), .ld false 1 (.t 25), (some (24, true))⟩,
 ⟨(some 27), .fa 3 (.t 3), (some (24, true))⟩,
 ⟨(some 28), .ld false 1 (.t 27), (some (24, true))⟩,
 ⟨(some 29), .bin .eql (.t 26) (.t 28), (some (24, true))⟩,
 ⟨(some 30), .pick (.t 24) (.t 29) (.c (.b false)), none⟩,
 ⟨(some 31), .mv (.t 30), none⟩,
 ⟨(some 32), .fa 4 (.t 2), (some (31, true))⟩,
 ⟨(some 33), .ld false 1 (.t 32), (some (31, true))⟩,
 ⟨(some 34), .fa 4 (.t 3), (some (31, true))⟩,
 ⟨(some 35), .ld false 1 (.t 34), (some (31, true))⟩,
 ⟨(some 36), .call f_slices_Equal_string_string [(.t 33), (.t 35)], (some (31, true))⟩,
 ⟨(some 37), .pick (.t 31) (.t 36) (.c (.b false)), none⟩,
 ⟨(some 38), .mv (.t 37), none⟩,
 ⟨(some 39), .fa 5 (.t 2), (some (38, true))⟩,
 ⟨(some 40), .ld false 1 (.t 39), (some (38, true))⟩,
 ⟨(some 41), .fa 5 (.t 3), (some (38, true))⟩,
 ⟨(some 42), .ld false 1 (.t 41), (some (38, true))⟩,
 ⟨(some 43), .call f_slices_EqualFunc_api_Term_api_Term_api_Term_api_Term [(.t 40), (.t 42), (.c (.fn f_sym_Same []))], (some (38, true))⟩,
 ⟨(some 44), .pick (.t 38) (.t 43) (.c (.b false)), none⟩,
 ⟨(some 4), .mv (.t 44), none⟩])
 .ret)) }
def c_sym_absent : Fun := { cin := [], cout := [(.agg [.id, .id, .id, .id, (.sl 1 .id), (.sl 6 (.agg [.id, .id, .id, .id, (.sl 1 .id), (.sl 6 (.agg [.id, .id, .id, .id, (.sl 1 .id), (.sl 6 .id)]))]))])], ntmps := 2, keep := false, res := [(0, some (true, 6))], body :=
 (.seq (.reg [⟨(some 0), .alloc 91 [(.i .i64 0), (.i .u8 0), (.s []), (.i .i64 0), .nsl, .nsl], none⟩])
 (.seq (.reg [⟨(some 1), .build [(.i .i64 0), (.i .u8 0), (.s []), (.i .i64 0), .nsl, .nsl] [(0, 1, (.c (.i .i64 (-1)))), (3, 1, (.c (.i .i64 (-1))))], none⟩,
 ⟨none, .st 6 (.t 0) (.t 1), none⟩])
 .ret)) }
def c_slices_Collect_int : Fun := { cin := [.id], cout := [(.sl 1 .id)], ntmps := 5, keep := false, res := [(2, none)], body :=
 (.seq (.reg [⟨(some 2), .mv (.c .nsl), none⟩])
 (.seq (.reg [⟨(some 3), .mv (.t 0), none⟩,
 ⟨(some 4), .call f_slices_AppendSeq_int_int [(.c .nsl), (.t 3)], none⟩,
 ⟨(some 2), .mv (.t 4), none⟩])
 .ret)) }
def c_slices_Sort_int_int : Fun := { cin := [(.sl 1 .id)], cout := [], ntmps := 11, keep := false, res := [], body :=
 (.seq (.reg [⟨(some 3), .mv (.t 0), none⟩,
 ⟨(some 4), .len 1 (.t 3), none⟩,
 ⟨(some 2), .mv (.t 4), none⟩])
 (.reg [⟨(some 5), .mv (.t 0), none⟩,
 ⟨(some 6), .mv (.t 2), none⟩,
 ⟨(some 7), .mv (.t 2), none⟩,
 ⟨(some 8), .cvI .u64 (.t 7), none⟩,
 ⟨(some 9), .call f_math_bits_Len [(.t 8)], none⟩,
 ⟨(some 10), .call f_slices_pdqsortOrdered_int [(.t 5), (.c (.i .i64 0)), (.t 6), (.t 9)], none⟩])) }
def c_slices_Values_int_int_1 : Fun := { cin := [.id], cout := [], ntmps := 16, keep := false, res := [], body :=
 (.seq (.reg [⟨(some 5), .ld false 1 (.t 1), none⟩,
 ⟨(some 6), .len 1 (.t 5), none⟩,
 ⟨(some 7), .mv (.c (.i .i64 0)), none⟩])
 (.blk 0 (.loop (.seq (.reg [⟨(some 8), .bin .lss (.t 7) (.t 6), none⟩])
 (.seq (.cond (.t 8)
 .skip
 (.exit 0))
 (.seq (.blk 1 (.seq (.reg [⟨(some 9), .ia 1 (.t 5) (.t 7), none⟩,
 ⟨(some 10), .ld false 1 (.t 9), none⟩,
 ⟨(some 4), .mv (.t 10), none⟩])
 (.seq (.reg [⟨(some 11), .mv (.t 0), none⟩,
 ⟨(some 12), .mv (.t 4), none⟩,
 ⟨(some 13), .callX (.t 11) [(.t 12)], none⟩,
 ⟨(some 14), .un .not (.t 13), none⟩])
 (.cond (.t 14)
 .ret
 .skip))))
 (.reg [⟨(some 15), .bin .add (.t 7) (.c (.i .i64 1)), none⟩,
 ⟨(some 7), .mv (.t 15), none⟩]))))))) }
def c_slices_EqualFunc_api_Term_api_Term_api_Term_api_Term : Fun := { cin := [(.sl 6 (.agg [.id, .id, .id, .id, (.sl 1 .id), (.sl 6 (.agg [.id, .id, .id, .id, (.sl 1 .id), (.sl 6 (.agg [.id, .id, .id, .id, .id, .id]))]))])), (.sl 6 (.agg [.id, .id, .id, .id, (.sl 1 .id), (.sl 6 (.agg [.id, .id, .id, .id, (.sl 1 .id), (.sl 6 (.agg [.id, .id, .id, .id, .id, .id]))]))])), .id], cout := [.id], ntmps := 32, keep := false, res := [(6, none)], body :=
 (.seq (.reg [⟨(some 6), .mv (.c (.b false)), none⟩])
 (.seq (.seq (.reg [⟨(some 10), .mv (.t 0), none⟩,
 ⟨(some 11), .len 1 (.t 10), none⟩,
 ⟨(some 12), .mv (.t 1), none⟩,
 ⟨(some 13), .len 1 (.t 12), none⟩,
 ⟨(some 14), .bin .neq (.t 11) (.t 13), none⟩])
 (.cond (.t 14)
 (.seq (.reg [⟨(some 6), .mv (.c (.b false)), none⟩])
 .ret)
 .skip))
 (.seq (.seq (.reg [⟨(some 15), .mv (.t 0), none⟩,
 ⟨(some 16), .len 1 (.t 15), none⟩,
 ⟨(some 17), .mv (.c (.i .i64 0)), none⟩])
 (.blk 0 (.loop (.seq (.reg [⟨(some 18), .bin .lss (.t 17) (.t 16), none⟩])
 (.seq (.cond (.t 18)
 .skip
 (.exit 0))
 (.seq (.blk 1 (.seq (.reg [⟨(some 19), .mv (.t 17), none⟩,
 ⟨(some 20), .ia 6 (.t 15) (.t 17), none⟩,
 ⟨(some 21), .ld true 6 (.t 20), none⟩,
 ⟨(some 8), .alloc 91 [(.i .i64 0), (.i .u8 0), (.s []), (.i .i64 0), .nsl, .nsl], none⟩,
 ⟨(some 7), .mv (.t 19), none⟩,
 ⟨none, .st 6 (.t 8) (.t 21), none⟩])
 (.seq (.reg [⟨(some 22), .mv (.t 1), none⟩,
 ⟨(some 23), .mv (.t 7), none⟩,
 ⟨(some 24), .ia 6 (.t 22) (.t 23), none⟩,
 ⟨(some 25), .ld true 6 (.t 24), none⟩,
 ⟨(some 9), .alloc 91 [(.i .i64 0), (.i .u8 0), (.s []), (.i .i64 0), .nsl, .nsl], none⟩,
 ⟨none, .st 6 (.t 9) (.t 25), none⟩])
 (.seq (.reg [⟨(some 26), .mv (.t 2), none⟩,
 ⟨(some 27), .ld true 6 (.t 8), none⟩,
 ⟨(some 28), .ld true 6 (.t 9), none⟩,
 ⟨(some 29), .callX (.t 26) [(.t 27), (.t 28)], none⟩,
 ⟨(some 30), .un .not (.t 29), none⟩])
 (.cond (.t 30)
 (.seq (.reg [⟨(some 6), .mv (.c (.b false)), none⟩])
 .ret)
 .skip)))))
 (.reg [⟨(some 31), .bin .add (.t 17) (.c (.i .i64 1)), none⟩,
 ⟨(some 17), .mv (.t 31), none⟩])))))))
 (.seq (.reg [⟨(some 6), .mv (.c (.b true)), none⟩])
 .ret)))) }
def c_slices_AppendSeq_int_int : Fun := { cin := [], cout := [], ntmps := 13, keep := false, res := [(4, none)], body :=
 (.seq (.reg [⟨(some 2), .box 82 1 (.t 0), none⟩,
 ⟨(some 4), .mv (.c .nsl), none⟩])
 (.seq (.seq (.reg [⟨(some 6), .mv (.t 1), none⟩])
 (.blk 0 (.rf (.t 6) [7] (.reg [⟨(some 5), .mv (.t 7), none⟩])
 (.blk 1 (.reg [⟨(some 8), .ld false 1 (.t 2), none⟩,
 ⟨(some 9), .mv (.t 5), none⟩,
 ⟨(some 10), .bsl 1 [(.t 9)], none⟩,
 ⟨(some 11), .app 1 3 (.t 8) (.t 10), none⟩,
 ⟨none, .st 1 (.t 2) (.t 11), none⟩])))))
 (.seq (.reg [⟨(some 12), .ld false 1 (.t 2), none⟩,
 ⟨(some 4), .mv (.t 12), none⟩])
 .ret))) }
end Go.Proofs.YtcdbpkfbnhjgdaaGreatDoor
