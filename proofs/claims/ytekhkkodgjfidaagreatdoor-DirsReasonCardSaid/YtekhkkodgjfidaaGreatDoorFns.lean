/-
 The functions, as the abstract machine's: numbers and texts. By program.
-/
import Derived.Test.YtekhkkodgjfidaaGreatDoorAmTab
set_option linter.all false
set_option linter.unusedVariables false
set_option linter.unusedSimpArgs false
set_option linter.unusedSectionVars false
set_option maxRecDepth 100000
namespace Go.Proofs.YtekhkkodgjfidaaGreatDoor
open Go.Proofs.YtekhkkodgjfidaaGreatDoor.Am
def f_touchstonelaw12_DirsReason : Nat := 6
def f_dirs_Reason : Nat := 28
def f_touchstoneref12_Reason : Nat := 29
def f_touchstonelaw12_awake : Nat := 30
def f_strings_Contains : Nat := 53
def f_ftree_May : Nat := 65
def f_touchstonelaw12_example : Nat := 66
def f_dirs_Run : Nat := 67
def f_ftree_Tree_Kind : Nat := 68
def f_slices_Collect_string : Nat := 69
def f_strings_HasPrefix : Nat := 86
def f_strings_Index : Nat := 90
def f_slices_BinarySearch_string_string : Nat := 106
def f_slices_Insert_string_string : Nat := 107
def f_slices_Insert_api_Node_api_Node : Nat := 108
def f_ftree_Well : Nat := 109
def f_ftree_Nodes : Nat := 110
def f_ftree_depth : Nat := 111
def f_ftree_New : Nat := 112
def f_dirs_utilities : Nat := 113
def f_opts_Parse : Nat := 114
def f_path_Check : Nat := 115
def f_ftree_Tree_at : Nat := 116
def f_slices_AppendSeq_string_string : Nat := 117
def f_internal_stringslite_HasPrefix : Nat := 131
def f_internal_stringslite_Index : Nat := 133
def f_path_Name : Nat := 136
def f_cmp_Less_string : Nat := 143
def f_slices_isNaN_string : Nat := 144
def f_slices_overlaps_string : Nat := 145
def f_slices_rotateRight_string : Nat := 146
def f_slices_overlaps_api_Node : Nat := 147
def f_slices_rotateRight_api_Node : Nat := 148
def f_strings_IndexByte : Nat := 149
def f_ftree_own : Nat := 150
def f_dirs_utilities_1 : Nat := 151
def f_dirs_call_mkdir : Nat := 152
def f_dirs_call_rmdir : Nat := 153
def f_dirs_call_touch : Nat := 154
def f_dirs_utilities_2 : Nat := 155
def f_opts_Opts_Has : Nat := 156
def f_dirs_call_rm : Nat := 157
def f_opts_letter : Nat := 158
def f_slices_Clone_string_string : Nat := 159
def f_path_steps : Nat := 160
def f_ftree_find : Nat := 161
def f_strings_ContainsAny : Nat := 178
def f_internal_stringslite_IndexByte : Nat := 179
def f_internal_bytealg_IndexString : Nat := 180
def f_internal_bytealg_Cutover : Nat := 181
def f_internal_bytealg_IndexRabinKarp_string : Nat := 182
def f_cmp_isNaN_string : Nat := 188
def f_slices_rotateLeft_string : Nat := 189
def f_slices_rotateLeft_api_Node : Nat := 190
def f_dirs_call_spot : Nat := 191
def f_prim_MakeDir : Nat := 192
def f_path_Steps : Nat := 193
def f_strings_Builder_WriteString : Nat := 194
def f_walk_Find : Nat := 195
def f_strings_Builder_String : Nat := 196
def f_prim_RemoveDir : Nat := 197
def f_walk_Spot : Nat := 198
def f_path_Dir : Nat := 199
def f_prim_Touch : Nat := 200
def f_prim_Unlink : Nat := 201
def f_prim_RemoveAll : Nat := 202
def f_path_steps_1 : Nat := 203
def f_strings_SplitSeq : Nat := 204
def f_strings_IndexAny : Nat := 214
def f_internal_bytealg_IndexByteString : Nat := 215
def f_internal_bytealg_hashStr_string : Nat := 216
def f_slices_Reverse_string_string : Nat := 220
def f_slices_Reverse_api_Node_api_Node : Nat := 221
def f_prim_put : Nat := 222
def f_strings_Builder_copyCheck : Nat := 223
def f_walk_walk : Nat := 224
def f_prim_remove : Nat := 225
def f_prim_RemoveDir_1 : Nat := 226
def f_strings_LastIndexByte : Nat := 227
def f_prim_at : Nat := 228
def f_prim_Touch_1 : Nat := 229
def f_prim_Unlink_1 : Nat := 230
def f_prim_RemoveAll_1 : Nat := 231
def f_strings_splitSeq : Nat := 232
def f_strings_IndexRune : Nat := 235
def f_strings_shouldUseASCIISet : Nat := 236
def f_strings_makeASCIISet : Nat := 237
def f_strings_asciiSet_contains : Nat := 238
def f_prim_put_1 : Nat := 252
def f_internal_abi_NoEscape : Nat := 253
def f_walk_walker_run : Nat := 254
def f_prim_remove_1 : Nat := 255
def f_internal_bytealg_LastIndexByteString : Nat := 256
def f_prim_taken : Nat := 257
def f_strings_splitSeq_1 : Nat := 258
def f_unicode_utf8_DecodeRuneInString : Nat := 259
def f_unicode_utf8_ValidRune : Nat := 260
def f_walk_walker_name : Nat := 269
def f_unicode_utf8_decodeRuneInStringSlow : Nat := 270
def f_walk_walker_below : Nat := 274
def f_walk_walker_follow : Nat := 275
def f_internal_abi_Type_Kind : Nat := 289
def f_ftree_Tree_Del : Nat := 294
def f_ftree_Tree_Empty : Nat := 295
def f_ftree_Tree_Put : Nat := 296
def f_ftree_Tree_Text : Nat := 297
def f_ftree_change : Nat := 298
def f_ftree_Tree_Del_1 : Nat := 299
def f_slices_Delete_string_string : Nat := 300
def f_slices_Delete_api_Node_api_Node : Nat := 301
def f_slices_Clone_api_Node_api_Node : Nat := 302
def f_ftree_Tree_open : Nat := 303
def f_ftree_Tree_set : Nat := 304
def f_ftree_Tree_set_1 : Nat := 305
def c_touchstonelaw12_DirsReason : Fun := { cin := [.id], cout := [.id], ntmps := 11, keep := false, res := [(2, none)], body :=
 (.seq (.reg [⟨(some 2), .mv (.c (.b false)), none⟩])
 (.seq (.reg [⟨(some 3), .mv (.t 0), none⟩,
 ⟨(some 4), .call f_dirs_Reason [(.t 3)], none⟩,
 ⟨(some 5), .mv (.t 0), none⟩,
 ⟨(some 6), .call f_touchstoneref12_Reason [(.t 5)], none⟩,
 ⟨(some 7), .bin .eql (.t 4) (.t 6), none⟩,
 ⟨(some 8), .mv (.t 7), none⟩,
 ⟨(some 9), .call f_touchstonelaw12_awake [], (some (8, true))⟩,
 ⟨(some 10), .pick (.t 8) (.t 9) (.c (.b false)), none⟩,
 ⟨(some 2), .mv (.t 10), none⟩])
 .ret)) }
def c_dirs_Reason : Fun := { cin := [.id], cout := [.id], ntmps := 15, keep := false, res := [(2, none)], body :=
 (.seq (.reg [⟨(some 2), .mv (.c (.s [])), none⟩])
 (.seq (.reg [⟨(some 6), .mkm, none⟩,
 ⟨none, .ins 0 (.t 6) (.c (.i .i64 5)) (.c (.s [110, 111, 116, 32, 116, 104, 101, 114, 101])), none⟩,
 ⟨none, .ins 0 (.t 6) (.c (.i .i64 6)) (.c (.s [116, 104, 101, 114, 101, 32, 97, 108, 114, 101, 97, 100, 121])), none⟩,
 ⟨none, .ins 0 (.t 6) (.c (.i .i64 55)) (.c (.s [119, 114, 111, 110, 103, 32, 107, 105, 110, 100])), none⟩,
 ⟨none, .ins 0 (.t 6) (.c (.i .i64 57)) (.c (.s [110, 111, 116, 32, 101, 109, 112, 116, 121])), none⟩,
 ⟨none, .ins 0 (.t 6) (.c (.i .i64 58)) (.c (.s [105, 110, 116, 111, 32, 105, 116, 115, 101, 108, 102])), none⟩,
 ⟨none, .ins 0 (.t 6) (.c (.i .i64 61)) (.c (.s [116, 111, 111, 32, 109, 97, 110, 121, 32, 108, 105, 110, 107, 115])), none⟩,
 ⟨none, .ins 0 (.t 6) (.c (.i .i64 40)) (.c (.s [116, 111, 111, 32, 108, 97, 114, 103, 101])), none⟩,
 ⟨none, .ins 0 (.t 6) (.c (.i .i64 4)) (.c (.s [98, 97, 100, 32, 110, 97, 109, 101])), none⟩,
 ⟨(some 7), .mv (.t 6), none⟩,
 ⟨(some 8), .mv (.t 0), none⟩,
 ⟨(some 9), .look 0 (.s []) true (.t 7) (.t 8), none⟩,
 ⟨(some 5), .mv (.t 9), none⟩,
 ⟨(some 10), .ext (.t 5) 0, none⟩,
 ⟨(some 11), .ext (.t 5) 1, none⟩,
 ⟨(some 3), .mv (.t 10), none⟩,
 ⟨(some 4), .mv (.t 11), none⟩])
 (.seq (.seq (.reg [⟨(some 12), .mv (.t 4), none⟩,
 ⟨(some 13), .un .not (.t 12), none⟩])
 (.cond (.t 13)
 (.seq (.reg [⟨(some 2), .mv (.c (.s [119, 114, 111, 110, 103])), none⟩])
 .ret)
 .skip))
 (.seq (.reg [⟨(some 14), .mv (.t 3), none⟩,
 ⟨(some 2), .mv (.t 14), none⟩])
 .ret)))) }
def c_touchstoneref12_Reason : Fun := { cin := [.id], cout := [.id], ntmps := 20, keep := false, res := [(2, none)], body :=
 (.seq (.reg [⟨(some 2), .mv (.c (.s [])), none⟩])
 (.seq (.seq (.reg [⟨(some 3), .mv (.t 0), none⟩])
 (.blk 0 (.seq (.reg [⟨(some 5), .bin .eql (.t 3) (.c (.i .i64 5)), none⟩,
 ⟨(some 4), .mv (.t 5), none⟩])
 (.cond (.t 4)
 (.seq (.reg [⟨(some 2), .mv (.c (.s [110, 111, 116, 32, 116, 104, 101, 114, 101])), none⟩])
 .ret)
 (.seq (.reg [⟨(some 7), .bin .eql (.t 3) (.c (.i .i64 6)), none⟩,
 ⟨(some 6), .mv (.t 7), none⟩])
 (.cond (.t 6)
 (.seq (.reg [⟨(some 2), .mv (.c (.s [116, 104, 101, 114, 101, 32, 97, 108, 114, 101, 97, 100, 121])), none⟩])
 .ret)
 (.seq (.reg [⟨(some 9), .bin .eql (.t 3) (.c (.i .i64 55)), none⟩,
 ⟨(some 8), .mv (.t 9), none⟩])
 (.cond (.t 8)
 (.seq (.reg [⟨(some 2), .mv (.c (.s [119, 114, 111, 110, 103, 32, 107, 105, 110, 100])), none⟩])
 .ret)
 (.seq (.reg [⟨(some 11), .bin .eql (.t 3) (.c (.i .i64 57)), none⟩,
 ⟨(some 10), .mv (.t 11), none⟩])
 (.cond (.t 10)
 (.seq (.reg [⟨(some 2), .mv (.c (.s [110, 111, 116, 32, 101, 109, 112, 116, 121])), none⟩])
 .ret)
 (.seq (.reg [⟨(some 13), .bin .eql (.t 3) (.c (.i .i64 58)), none⟩,
 ⟨(some 12), .mv (.t 13), none⟩])
 (.cond (.t 12)
 (.seq (.reg [⟨(some 2), .mv (.c (.s [105, 110, 116, 111, 32, 105, 116, 115, 101, 108, 102])), none⟩])
 .ret)
 (.seq (.reg [⟨(some 15), .bin .eql (.t 3) (.c (.i .i64 61)), none⟩,
 ⟨(some 14), .mv (.t 15), none⟩])
 (.cond (.t 14)
 (.seq (.reg [⟨(some 2), .mv (.c (.s [116, 111, 111, 32, 109, 97, 110, 121, 32, 108, 105, 110, 107, 115])), none⟩])
 .ret)
 (.seq (.reg [⟨(some 17), .bin .eql (.t 3) (.c (.i .i64 40)), none⟩,
 ⟨(some 16), .mv (.t 17), none⟩])
 (.cond (.t 16)
 (.seq (.reg [⟨(some 2), .mv (.c (.s [116, 111, 111, 32, 108, 97, 114, 103, 101])), none⟩])
 .ret)
 (.seq (.reg [⟨(some 19), .bin .eql (.t 3) (.c (.i .i64 4)), none⟩,
 ⟨(some 18), .mv (.t 19), none⟩])
 (.cond (.t 18)
 (.seq (.reg [⟨(some 2), .mv (.c (.s [98, 97, 100, 32, 110, 97, 109, 101])), none⟩])
 .ret)
 .skip))))))))))))))))))
 (.seq (.reg [⟨(some 2), .mv (.c (.s [119, 114, 111, 110, 103])), none⟩])
 .ret))) }
def c_touchstonelaw12_awake : Fun := { cin := [], cout := [.id], ntmps := 63, keep := false, res := [(0, none)], body :=
 (.seq (.reg [⟨(some 0), .mv (.c (.b false)), none⟩])
 (.seq (.reg [⟨(some 10), .call f_touchstonelaw12_example [], none⟩,
 ⟨(some 1), .mv (.t 10), none⟩])
 (.seq (.seq (.reg [⟨(some 11), .mv (.t 1), none⟩,
 ⟨(some 12), .eq .ptr false (.t 11) (.c .np), none⟩])
 (.cond (.t 12)
 (.seq (.reg [⟨(some 0), .mv (.c (.b false)), none⟩])
 .ret)
 .skip))
 (.seq (.reg [⟨(some 14), .mv (.t 1), none⟩,
 ⟨(some 15), .mki 108 (.t 14), none⟩,
 ⟨(some 16), .bsl 1 [(.c (.s [109, 107, 100, 105, 114])), (.c (.s [97])), (.c (.s [100, 47, 120]))], none⟩,
 ⟨(some 17), .call f_dirs_Run [(.t 15), (.t 16)], none⟩,
 ⟨(some 13), .mv (.t 17), none⟩,
 ⟨(some 18), .ext (.t 13) 0, none⟩,
 ⟨(some 19), .ext (.t 13) 1, none⟩,
 ⟨(some 20), .ext (.t 13) 2, none⟩,
 ⟨(some 21), .ext (.t 13) 3, none⟩,
 ⟨(some 2), .mv (.t 18), none⟩,
 ⟨(some 3), .mv (.t 19), none⟩,
 ⟨(some 4), .mv (.t 20), none⟩,
 ⟨(some 5), .mv (.t 21), none⟩])
 (.seq (.reg [⟨(some 23), .mv (.t 1), none⟩,
 ⟨(some 24), .mki 108 (.t 23), none⟩,
 ⟨(some 25), .bsl 1 [(.c (.s [114, 109])), (.c (.s [45, 114, 102])), (.c (.s [100, 47, 101])), (.c (.s [122]))], none⟩,
 ⟨(some 26), .call f_dirs_Run [(.t 24), (.t 25)], none⟩,
 ⟨(some 22), .mv (.t 26), none⟩,
 ⟨(some 27), .ext (.t 22) 0, none⟩,
 ⟨(some 28), .ext (.t 22) 1, none⟩,
 ⟨(some 29), .ext (.t 22) 2, none⟩,
 ⟨(some 30), .ext (.t 22) 3, none⟩,
 ⟨(some 6), .mv (.t 27), none⟩,
 ⟨(some 7), .mv (.t 28), none⟩,
 ⟨(some 8), .mv (.t 29), none⟩,
 ⟨(some 9), .mv (.t 30), none⟩])
 (.seq (.reg [⟨(some 31), .mv (.t 2), none⟩,
 ⟨(some 32), .bin .eql (.t 31) (.c (.i .i64 1)), none⟩,
 ⟨(some 33), .mv (.t 32), none⟩,
 ⟨(some 34), .mv (.t 3), (some (33, true))⟩,
 ⟨(some 35), .bin .eql (.t 34) (.c (.s [])), (some (33, true))⟩,
 ⟨(some 36), .pick (.t 33) (.t 35) (.c (.b false)), none⟩,
 ⟨(some 37), .mv (.t 36), none⟩,
 ⟨(some 38), .mv (.t 4), (some (37, true))⟩,
 ⟨(some 39), .bin .eql (.t 38) (.c (.s [109, 107, 100, 105, 114, 58, 32, 97, 58, 32, 116, 104, 101, 114, 101, 32, 97, 108, 114, 101, 97, 100, 121, 10])), (some (37, true))⟩,
 ⟨(some 40), .pick (.t 37) (.t 39) (.c (.b false)), none⟩,
 ⟨(some 41), .mv (.t 40), none⟩,
 ⟨(some 42), .mv (.t 5), (some (41, true))⟩,
 ⟨(some 43), .pick (.t 41) (.t 42) (.c (.b false)), none⟩,
 ⟨(some 44), .mv (.t 43), none⟩,
 ⟨(some 45), .mv (.t 6), (some (44, true))⟩,
 ⟨(some 46), .bin .eql (.t 45) (.c (.i .i64 0)), (some (44, true))⟩,
 ⟨(some 47), .pick (.t 44) (.t 46) (.c (.b false)), none⟩,
 ⟨(some 48), .mv (.t 47), none⟩,
 ⟨(some 49), .mv (.t 9), (some (48, true))⟩,
 ⟨(some 50), .pick (.t 48) (.t 49) (.c (.b false)), none⟩,
 ⟨(some 51), .mv (.t 50), none⟩,
 ⟨(some 52), .mv (.t 1), (some (51, true))⟩,
 ⟨(some 53), .bsl 1 [(.c (.s [100])), (.c (.s [120]))], (some (51, true))⟩,
 ⟨(some 54), .call f_ftree_Tree_Kind [(.t 52), (.t 53)], (some (51, true))⟩,
 ⟨(some 55), .bin .eql (.t 54) (.c (.i .u8 2)), (some (51, true))⟩,
 ⟨(some 56), .pick (.t 51) (.t 55) (.c (.b false)), none⟩,
 ⟨(some 57), .mv (.t 56), none⟩,
 ⟨(some 58), .mv (.t 1), (some (57, true))⟩,
 ⟨(some 59), .bsl 1 [(.c (.s [100])), (.c (.s [101]))], (some (57, true))⟩,
 ⟨(some 60), .call f_ftree_Tree_Kind [(.t 58), (.t 59)], (some (57, true))⟩,
 ⟨(some 61), .bin .eql (.t 60) (.c (.i .u8 0)), (some (57, true))⟩,
 ⟨(some 62), .pick (.t 57) (.t 61) (.c (.b false)), none⟩,
 ⟨(some 0), .mv (.t 62), none⟩])
 .ret)))))) }
def c_strings_Contains : Fun := { cin := [.id, .id], cout := [.id], ntmps := 9, keep := false, res := [(4, none)], body :=
 (.seq (.reg [⟨(some 4), .mv (.c (.b false)), none⟩])
 (.seq (.reg [⟨(some 5), .mv (.t 0), none⟩,
 ⟨(some 6), .mv (.t 1), none⟩,
 ⟨(some 7), .call f_strings_Index [(.t 5), (.t 6)], none⟩,
 ⟨(some 8), .bin .geq (.t 7) (.c (.i .i64 0)), none⟩,
 ⟨(some 4), .mv (.t 8), none⟩])
 .ret)) }
def c_ftree_May : Fun := { cin := [(.agg [.id, .id, (.sl 1 .id), (.sl 4 (.agg [.id, .id, (.sl 1 .id), (.sl 4 (.agg [.id, .id, (.sl 1 .id), (.sl 4 .id)]))]))])], cout := [.id], ntmps := 20, keep := false, res := [(2, none)], body :=
 (.seq (.reg [⟨(some 1), .box 49 4 (.t 0), none⟩,
 ⟨(some 2), .mv (.c (.b false)), none⟩])
 (.seq (.reg [⟨(some 3), .fa 0 (.t 1), none⟩,
 ⟨(some 4), .ld false 1 (.t 3), none⟩,
 ⟨(some 5), .bin .eql (.t 4) (.c (.i .u8 2)), none⟩,
 ⟨(some 6), .mv (.t 5), none⟩,
 ⟨(some 7), .ld true 4 (.t 1), (some (6, true))⟩,
 ⟨(some 8), .call f_ftree_Well [(.t 7)], (some (6, true))⟩,
 ⟨(some 9), .pick (.t 6) (.t 8) (.c (.b false)), none⟩,
 ⟨(some 10), .mv (.t 9), none⟩,
 ⟨(some 11), .ld true 4 (.t 1), (some (10, true))⟩,
 ⟨(some 12), .call f_ftree_Nodes [(.t 11)], (some (10, true))⟩,
 ⟨(some 13), .bin .leq (.t 12) (.c (.i .i64 1024)), (some (10, true))⟩,
 ⟨(some 14), .pick (.t 10) (.t 13) (.c (.b false)), none⟩,
 ⟨(some 15), .mv (.t 14), none⟩,
 ⟨(some 16), .ld true 4 (.t 1), (some (15, true))⟩,
 ⟨(some 17), .call f_ftree_depth [(.t 16)], (some (15, true))⟩,
 ⟨(some 18), .bin .leq (.t 17) (.c (.i .i64 24)), (some (15, true))⟩,
 ⟨(some 19), .pick (.t 15) (.t 18) (.c (.b false)), none⟩,
 ⟨(some 2), .mv (.t 19), none⟩])
 .ret)) }
def c_touchstonelaw12_example : Fun := { cin := [], cout := [.id], ntmps := 18, keep := false, res := [(0, none)], body :=
 (.seq (.reg [⟨(some 0), .mv (.c .np), none⟩])
 (.seq (.reg [⟨(some 4), .bsl 1 [(.c (.s [97])), (.c (.s [100]))], none⟩,
 ⟨(some 5), .build [(.i .u8 0), (.s []), .nsl, .nsl] [(0, 1, (.c (.i .u8 1))), (1, 1, (.c (.s [120])))], none⟩,
 ⟨(some 6), .bsl 1 [(.c (.s [101]))], none⟩,
 ⟨(some 7), .build [(.i .u8 0), (.s []), .nsl, .nsl] [(0, 1, (.c (.i .u8 1)))], none⟩,
 ⟨(some 8), .bsl 4 [(.t 7)], none⟩,
 ⟨(some 9), .build [(.i .u8 0), (.s []), .nsl, .nsl] [(0, 1, (.c (.i .u8 2))), (2, 1, (.t 6)), (3, 1, (.t 8))], none⟩,
 ⟨(some 10), .bsl 4 [(.t 5), (.t 9)], none⟩,
 ⟨(some 11), .build [(.i .u8 0), (.s []), .nsl, .nsl] [(0, 1, (.c (.i .u8 2))), (2, 1, (.t 4)), (3, 1, (.t 10))], none⟩,
 ⟨(some 12), .call f_ftree_New [(.t 11)], none⟩,
 ⟨(some 3), .mv (.t 12), none⟩,
 ⟨(some 13), .ext (.t 3) 0, none⟩,
 ⟨(some 14), .ext (.t 3) 1, none⟩,
 ⟨(some 1), .mv (.t 13), none⟩,
 ⟨(some 2), .mv (.t 14), none⟩])
 (.seq (.seq (.reg [⟨(some 15), .mv (.t 2), none⟩,
 ⟨(some 16), .bin .neq (.t 15) (.c (.i .i64 0)), none⟩])
 (.cond (.t 16)
 (.seq (.reg [⟨(some 0), .mv (.c .np), none⟩])
 .ret)
 .skip))
 (.seq (.reg [⟨(some 17), .mv (.t 1), none⟩,
 ⟨(some 0), .mv (.t 17), none⟩])
 .ret)))) }
def c_dirs_Run : Fun := { cin := [.id, (.sl 1 .id)], cout := [.id, .id, .id, .id], ntmps := 96, keep := false, res := [(4, none), (5, none), (6, none), (7, none)], body :=
 (.seq (.reg [⟨(some 4), .mv (.c (.i .i64 0)), none⟩,
 ⟨(some 5), .mv (.c (.s [])), none⟩,
 ⟨(some 6), .mv (.c (.s [])), none⟩,
 ⟨(some 7), .mv (.c (.b false)), none⟩])
 (.seq (.seq (.reg [⟨(some 16), .mv (.t 0), none⟩,
 ⟨(some 17), .eq .ifc false (.t 16) (.c .ni), none⟩,
 ⟨(some 18), .mv (.t 17), none⟩,
 ⟨(some 19), .mv (.t 1), (some (18, false))⟩,
 ⟨(some 20), .len 1 (.t 19), (some (18, false))⟩,
 ⟨(some 21), .bin .eql (.t 20) (.c (.i .i64 0)), (some (18, false))⟩,
 ⟨(some 22), .pick (.t 18) (.c (.b true)) (.t 21), none⟩])
 (.cond (.t 22)
 (.seq (.reg [⟨(some 4), .mv (.c (.i .i64 0)), none⟩,
 ⟨(some 5), .mv (.c (.s [])), none⟩,
 ⟨(some 6), .mv (.c (.s [])), none⟩,
 ⟨(some 7), .mv (.c (.b false)), none⟩])
 .ret)
 .skip))
 (.seq (.reg [⟨(some 23), .mv (.t 1), none⟩,
 ⟨(some 24), .ia 1 (.t 23) (.c (.i .i64 0)), none⟩,
 ⟨(some 25), .ld false 1 (.t 24), none⟩,
 ⟨(some 8), .mv (.t 25), none⟩])
 (.seq (.reg [⟨(some 27), .call f_dirs_utilities [], none⟩,
 ⟨(some 28), .mv (.t 8), none⟩,
 ⟨(some 29), .look 1 (.agg [(.s []), .nf, .nf]) true (.t 27) (.t 28), none⟩,
 ⟨(some 26), .mv (.t 29), none⟩,
 ⟨(some 30), .ext (.t 26) 0, none⟩,
 ⟨(some 31), .ext (.t 26) 1, none⟩,
 ⟨(some 9), .alloc 151 [(.s []), .nf, .nf], none⟩,
 ⟨none, .st 3 (.t 9) (.t 30), none⟩,
 ⟨(some 7), .mv (.t 31), none⟩])
 (.seq (.seq (.reg [⟨(some 32), .mv (.t 7), none⟩,
 ⟨(some 33), .un .not (.t 32), none⟩])
 (.cond (.t 33)
 (.seq (.reg [⟨(some 4), .mv (.c (.i .i64 0)), none⟩,
 ⟨(some 5), .mv (.c (.s [])), none⟩,
 ⟨(some 6), .mv (.c (.s [])), none⟩,
 ⟨(some 7), .mv (.c (.b false)), none⟩])
 .ret)
 .skip))
 (.seq (.regD [⟨(some 35), .fa 0 (.t 9), none⟩,
 ⟨(some 36), .ld false 1 (.t 35), none⟩,
 ⟨(some 37), .mv (.t 1), none⟩,
 ⟨(some 38), .slc false 1 (.t 37) (some (.c (.i .i64 1))) none none, none⟩,
 ⟨(some 39), .mv (.t 1), none⟩,
 ⟨(some 40), .len 1 (.t 39), none⟩,
 ⟨(some 41), .call f_opts_Parse [(.t 36), (.t 38), (.c (.i .i64 0)), (.t 40)], none⟩,
 ⟨(some 34), .mv (.t 41), none⟩,
 ⟨(some 42), .ext (.t 34) 0, none⟩,
 ⟨(some 43), .ext (.t 34) 1, none⟩,
 ⟨none, .mv (.c (.tup [])), none⟩,
 ⟨(some 10), .adp 156 [(.s []), .nsl] 2 (.t 42), none⟩,
 ⟨(some 11), .mv (.t 43), none⟩] [])
 (.seq (.reg [⟨(some 44), .mv (.t 0), none⟩,
 ⟨(some 45), .ld true 2 (.t 10), none⟩,
 ⟨(some 46), .build [.ni, (.s []), .nsl] [(0, 1, (.t 44)), (1, 2, (.t 45))], none⟩,
 ⟨(some 12), .alloc 160 [.ni, (.s []), .nsl], none⟩,
 ⟨none, .st 3 (.t 12) (.t 46), none⟩])
 (.seq (.seq (.reg [⟨(some 47), .mv (.t 11), none⟩,
 ⟨(some 48), .bin .neq (.t 47) (.c (.i .i64 0)), none⟩,
 ⟨(some 49), .mv (.t 48), none⟩,
 ⟨(some 50), .fa 1 (.t 10), (some (49, false))⟩,
 ⟨(some 51), .ld false 1 (.t 50), (some (49, false))⟩,
 ⟨(some 52), .len 1 (.t 51), (some (49, false))⟩,
 ⟨(some 53), .bin .eql (.t 52) (.c (.i .i64 0)), (some (49, false))⟩,
 ⟨(some 54), .mv (.t 53), (some (49, false))⟩,
 ⟨(some 55), .fa 1 (.t 9), (some (54, true))⟩,
 ⟨(some 56), .ld false 1 (.t 55), (some (54, true))⟩,
 ⟨(some 57), .ld true 3 (.t 12), (some (54, true))⟩,
 ⟨(some 58), .callX (.t 56) [(.t 57)], (some (54, true))⟩,
 ⟨(some 59), .un .not (.t 58), (some (54, true))⟩,
 ⟨(some 60), .pick (.t 54) (.t 59) (.c (.b false)), (some (49, false))⟩,
 ⟨(some 61), .pick (.t 49) (.c (.b true)) (.t 60), none⟩])
 (.cond (.t 61)
 (.seq (.reg [⟨(some 62), .mv (.t 8), none⟩,
 ⟨(some 63), .bin .add (.t 62) (.c (.s [58, 32, 117, 115, 97, 103, 101, 10])), none⟩,
 ⟨(some 4), .mv (.c (.i .i64 2)), none⟩,
 ⟨(some 5), .mv (.c (.s [])), none⟩,
 ⟨(some 6), .mv (.t 63), none⟩,
 ⟨(some 7), .mv (.c (.b true)), none⟩])
 .ret)
 .skip))
 (.seq (.seq (.reg [⟨(some 64), .fa 1 (.t 10), none⟩,
 ⟨(some 65), .ld false 1 (.t 64), none⟩,
 ⟨(some 66), .len 1 (.t 65), none⟩,
 ⟨(some 67), .mv (.c (.i .i64 0)), none⟩])
 (.blk 0 (.loop (.seq (.reg [⟨(some 68), .bin .lss (.t 67) (.t 66), none⟩])
 (.seq (.cond (.t 68)
 .skip
 (.exit 0))
 (.seq (.blk 1 (.seq (.reg [⟨(some 69), .ia 1 (.t 65) (.t 67), none⟩,
 ⟨(some 70), .ld false 1 (.t 69), none⟩,
 ⟨(some 14), .mv (.t 70), none⟩])
 (.seq (.reg [⟨(some 71), .mv (.t 14), none⟩,
 ⟨(some 72), .call f_path_Check [(.t 71)], none⟩,
 ⟨(some 15), .mv (.t 72), none⟩])
 (.seq (.seq (.reg [⟨(some 73), .mv (.t 15), none⟩,
 ⟨(some 74), .bin .eql (.t 73) (.c (.i .i64 0)), none⟩])
 (.cond (.t 74)
 (.reg [⟨(some 75), .fa 2 (.t 9), none⟩,
 ⟨(some 76), .ld false 1 (.t 75), none⟩,
 ⟨(some 77), .ld true 3 (.t 12), none⟩,
 ⟨(some 78), .mv (.t 14), none⟩,
 ⟨(some 79), .callX (.t 76) [(.t 77), (.t 78)], none⟩,
 ⟨(some 15), .mv (.t 79), none⟩])
 .skip))
 (.seq (.reg [⟨(some 80), .mv (.t 15), none⟩,
 ⟨(some 81), .bin .neq (.t 80) (.c (.i .i64 0)), none⟩])
 (.cond (.t 81)
 (.seq (.reg [⟨(some 4), .mv (.c (.i .i64 1)), none⟩])
 (.reg [⟨(some 82), .mv (.t 6), none⟩,
 ⟨(some 83), .mv (.t 8), none⟩,
 ⟨(some 84), .bin .add (.t 83) (.c (.s [58, 32])), none⟩,
 ⟨(some 85), .mv (.t 14), none⟩,
 ⟨(some 86), .bin .add (.t 84) (.t 85), none⟩,
 ⟨(some 87), .bin .add (.t 86) (.c (.s [58, 32])), none⟩,
 ⟨(some 88), .mv (.t 15), none⟩,
 ⟨(some 89), .call f_dirs_Reason [(.t 88)], none⟩,
 ⟨(some 90), .bin .add (.t 87) (.t 89), none⟩,
 ⟨(some 91), .bin .add (.t 90) (.c (.s [10])), none⟩,
 ⟨(some 92), .bin .add (.t 82) (.t 91), none⟩,
 ⟨(some 6), .mv (.t 92), none⟩]))
 .skip))))))
 (.reg [⟨(some 93), .bin .add (.t 67) (.c (.i .i64 1)), none⟩,
 ⟨(some 67), .mv (.t 93), none⟩])))))))
 (.seq (.reg [⟨(some 94), .mv (.t 4), none⟩,
 ⟨(some 95), .mv (.t 6), none⟩,
 ⟨(some 4), .mv (.t 94), none⟩,
 ⟨(some 5), .mv (.c (.s [])), none⟩,
 ⟨(some 6), .mv (.t 95), none⟩,
 ⟨(some 7), .mv (.c (.b true)), none⟩])
 .ret)))))))))) }
def c_ftree_Tree_Kind : Fun := { cin := [.id, (.sl 1 .id)], cout := [.id], ntmps := 9, keep := false, res := [(4, none)], body :=
 (.seq (.reg [⟨(some 4), .mv (.c (.i .u8 0)), none⟩])
 (.seq (.reg [⟨(some 5), .mv (.t 0), none⟩,
 ⟨(some 6), .mv (.t 1), none⟩,
 ⟨(some 7), .call f_ftree_Tree_at [(.t 5), (.t 6)], none⟩,
 ⟨(some 8), .fld false 0 1 (.t 7), none⟩,
 ⟨(some 4), .mv (.t 8), none⟩])
 .ret)) }
def c_slices_Collect_string : Fun := { cin := [.id], cout := [(.sl 1 .id)], ntmps := 5, keep := false, res := [(2, none)], body :=
 (.seq (.reg [⟨(some 2), .mv (.c .nsl), none⟩])
 (.seq (.reg [⟨(some 3), .mv (.t 0), none⟩,
 ⟨(some 4), .call f_slices_AppendSeq_string_string [(.c .nsl), (.t 3)], none⟩,
 ⟨(some 2), .mv (.t 4), none⟩])
 .ret)) }
def c_strings_HasPrefix : Fun := { cin := [.id, .id], cout := [.id], ntmps := 8, keep := false, res := [(4, none)], body :=
 (.seq (.reg [⟨(some 4), .mv (.c (.b false)), none⟩])
 (.seq (.reg [⟨(some 5), .mv (.t 0), none⟩,
 ⟨(some 6), .mv (.t 1), none⟩,
 ⟨(some 7), .call f_internal_stringslite_HasPrefix [(.t 5), (.t 6)], none⟩,
 ⟨(some 4), .mv (.t 7), none⟩])
 .ret)) }
def c_strings_Index : Fun := { cin := [.id, .id], cout := [.id], ntmps := 8, keep := false, res := [(4, none)], body :=
 (.seq (.reg [⟨(some 4), .mv (.c (.i .i64 0)), none⟩])
 (.seq (.reg [⟨(some 5), .mv (.t 0), none⟩,
 ⟨(some 6), .mv (.t 1), none⟩,
 ⟨(some 7), .call f_internal_stringslite_Index [(.t 5), (.t 6)], none⟩,
 ⟨(some 4), .mv (.t 7), none⟩])
 .ret)) }
def c_slices_BinarySearch_string_string : Fun := { cin := [(.sl 1 .id), .id], cout := [.id, .id], ntmps := 54, keep := false, res := [(4, none), (5, none)], body :=
 (.seq (.reg [⟨(some 4), .mv (.c (.i .i64 0)), none⟩,
 ⟨(some 5), .mv (.c (.b false)), none⟩])
 (.seq (.reg [⟨(some 10), .mv (.t 0), none⟩,
 ⟨(some 11), .len 1 (.t 10), none⟩,
 ⟨(some 6), .mv (.t 11), none⟩])
 (.seq (.reg [⟨(some 12), .mv (.t 6), none⟩,
 ⟨(some 7), .mv (.c (.i .i64 0)), none⟩,
 ⟨(some 8), .mv (.t 12), none⟩])
 (.seq (.blk 0 (.loop (.seq (.seq (.reg [⟨(some 13), .mv (.t 7), none⟩,
 ⟨(some 14), .mv (.t 8), none⟩,
 ⟨(some 15), .bin .lss (.t 13) (.t 14), none⟩])
 (.cond (.t 15)
 .skip
 (.exit 0)))
 (.blk 1 (.seq (.reg [⟨(some 16), .mv (.t 7), none⟩,
 ⟨(some 17), .mv (.t 8), none⟩,
 ⟨(some 18), .bin .add (.t 16) (.t 17), none⟩,
 ⟨(some 19), .cvI .u64 (.t 18), none⟩,
 ⟨(some 20), .bin .shr (.t 19) (.c (.i .u64 1)), none⟩,
 ⟨(some 21), .cvI .i64 (.t 20), none⟩,
 ⟨(some 9), .mv (.t 21), none⟩])
 (.seq (.reg [⟨(some 22), .mv (.t 0), none⟩,
 ⟨(some 23), .mv (.t 9), none⟩,
 ⟨(some 24), .ia 1 (.t 22) (.t 23), none⟩,
 ⟨(some 25), .ld false 1 (.t 24), none⟩,
 ⟨(some 26), .mv (.t 1), none⟩,
 ⟨(some 27), .call f_cmp_Less_string [(.t 25), (.t 26)], none⟩])
 (.cond (.t 27)
 (.reg [⟨(some 28), .mv (.t 9), none⟩,
 ⟨(some 29), .bin .add (.t 28) (.c (.i .i64 1)), none⟩,
 ⟨(some 7), .mv (.t 29), none⟩])
 (.reg [⟨(some 30), .mv (.t 9), none⟩,
 ⟨(some 8), .mv (.t 30), none⟩]))))))))
 (.seq (.reg [⟨(some 31), .mv (.t 7), none⟩,
 ⟨(some 32), .mv (.t 7), none⟩,
 ⟨(some 33), .mv (.t 6), none⟩,
 ⟨(some 34), .bin .lss (.t 32) (.t 33), none⟩,
 ⟨(some 35), .mv (.t 34), none⟩,
 ⟨(some 36), .mv (.t 0), (some (35, true))⟩,
 ⟨(some 37), .mv (.t 7), (some (35, true))⟩,
 ⟨(some 38), .ia 1 (.t 36) (.t 37), (some (35, true))⟩,
 ⟨(some 39), .ld false 1 (.t 38), (some (35, true))⟩,
 ⟨(some 40), .mv (.t 1), (some (35, true))⟩,
 ⟨(some 41), .bin .eql (.t 39) (.t 40), (some (35, true))⟩,
 ⟨(some 42), .mv (.t 41), (some (35, true))⟩,
 ⟨(some 43), .mv (.t 0), (some (42, false))⟩,
 ⟨(some 44), .mv (.t 7), (some (42, false))⟩,
 ⟨(some 45), .ia 1 (.t 43) (.t 44), (some (42, false))⟩,
 ⟨(some 46), .ld false 1 (.t 45), (some (42, false))⟩,
 ⟨(some 47), .call f_slices_isNaN_string [(.t 46)], (some (42, false))⟩,
 ⟨(some 48), .mv (.t 47), (some (42, false))⟩,
 ⟨(some 49), .mv (.t 1), (some (48, true))⟩,
 ⟨(some 50), .call f_slices_isNaN_string [(.t 49)], (some (48, true))⟩,
 ⟨(some 51), .pick (.t 48) (.t 50) (.c (.b false)), (some (42, false))⟩,
 ⟨(some 52), .pick (.t 42) (.c (.b true)) (.t 51), (some (35, true))⟩,
 ⟨(some 53), .pick (.t 35) (.t 52) (.c (.b false)), none⟩,
 ⟨(some 4), .mv (.t 31), none⟩,
 ⟨(some 5), .mv (.t 53), none⟩])
 .ret))))) }
def c_slices_Insert_string_string : Fun := { cin := [], cout := [], ntmps := 95, keep := false, res := [(6, none)], body :=
 (.seq (.reg [⟨(some 6), .mv (.c .nsl), none⟩])
 (.seq (.reg [⟨(some 10), .mv (.t 0), none⟩,
 ⟨(some 11), .mv (.t 1), none⟩,
 ⟨(some 12), .slc false 1 (.t 10) (some (.t 11)) none none, none⟩])
 (.seq (.reg [⟨(some 13), .mv (.t 2), none⟩,
 ⟨(some 14), .len 1 (.t 13), none⟩,
 ⟨(some 7), .mv (.t 14), none⟩])
 (.seq (.seq (.reg [⟨(some 15), .mv (.t 7), none⟩,
 ⟨(some 16), .bin .eql (.t 15) (.c (.i .i64 0)), none⟩])
 (.cond (.t 16)
 (.seq (.reg [⟨(some 17), .mv (.t 0), none⟩,
 ⟨(some 6), .mv (.t 17), none⟩])
 .ret)
 .skip))
 (.seq (.reg [⟨(some 18), .mv (.t 0), none⟩,
 ⟨(some 19), .len 1 (.t 18), none⟩,
 ⟨(some 8), .mv (.t 19), none⟩])
 (.seq (.seq (.reg [⟨(some 20), .mv (.t 1), none⟩,
 ⟨(some 21), .mv (.t 8), none⟩,
 ⟨(some 22), .bin .eql (.t 20) (.t 21), none⟩])
 (.cond (.t 22)
 (.seq (.reg [⟨(some 23), .mv (.t 0), none⟩,
 ⟨(some 24), .mv (.t 2), none⟩,
 ⟨(some 25), .app 1 9 (.t 23) (.t 24), none⟩,
 ⟨(some 6), .mv (.t 25), none⟩])
 .ret)
 .skip))
 (.seq (.seq (.reg [⟨(some 26), .mv (.t 8), none⟩,
 ⟨(some 27), .mv (.t 7), none⟩,
 ⟨(some 28), .bin .add (.t 26) (.t 27), none⟩,
 ⟨(some 29), .mv (.t 0), none⟩,
 ⟨(some 30), .cap (.t 29), none⟩,
 ⟨(some 31), .bin .gtr (.t 28) (.t 30), none⟩])
 (.cond (.t 31)
 (.seq (.reg [⟨(some 32), .mv (.t 0), none⟩,
 ⟨(some 33), .mv (.t 1), none⟩,
 ⟨(some 34), .slc false 1 (.t 32) none (some (.t 33)) none, none⟩,
 ⟨(some 35), .mv (.t 8), none⟩,
 ⟨(some 36), .mv (.t 7), none⟩,
 ⟨(some 37), .bin .add (.t 35) (.t 36), none⟩,
 ⟨(some 38), .mv (.t 1), none⟩,
 ⟨(some 39), .bin .sub (.t 37) (.t 38), none⟩,
 ⟨(some 40), .apz 1 9 [(.s [])] (.t 34) (.t 39), none⟩,
 ⟨(some 9), .mv (.t 40), none⟩])
 (.seq (.seq (.thw 9)
 (.reg [⟨(some 41), .mv (.t 9), none⟩,
 ⟨(some 42), .mv (.t 1), none⟩,
 ⟨(some 43), .slc false 1 (.t 41) (some (.t 42)) none none, none⟩,
 ⟨(some 44), .mv (.t 2), none⟩,
 ⟨(some 45), .cp0 1 (.t 43) (.t 44), none⟩]))
 (.seq (.seq (.thw 9)
 (.regD [⟨(some 46), .mv (.t 9), none⟩,
 ⟨(some 47), .mv (.t 1), none⟩,
 ⟨(some 48), .mv (.t 7), none⟩,
 ⟨(some 49), .bin .add (.t 47) (.t 48), none⟩,
 ⟨(some 50), .slc false 1 (.t 46) (some (.t 49)) none none, none⟩,
 ⟨(some 51), .mv (.t 0), none⟩,
 ⟨(some 52), .mv (.t 1), none⟩,
 ⟨(some 53), .slc false 1 (.t 51) (some (.t 52)) none none, none⟩,
 ⟨(some 54), .cp0 1 (.t 50) (.t 53), none⟩] []))
 (.seq (.reg [⟨(some 55), .mv (.t 9), none⟩,
 ⟨(some 6), .mv (.t 55), none⟩])
 .ret))))
 .skip))
 (.seq (.reg [⟨(some 56), .mv (.t 0), none⟩,
 ⟨(some 57), .mv (.t 8), none⟩,
 ⟨(some 58), .mv (.t 7), none⟩,
 ⟨(some 59), .bin .add (.t 57) (.t 58), none⟩,
 ⟨(some 60), .slc true 1 (.t 56) none (some (.t 59)) none, none⟩,
 ⟨(some 0), .mv (.t 60), none⟩])
 (.seq (.seq (.reg [⟨(some 61), .mv (.t 2), none⟩,
 ⟨(some 62), .mv (.t 0), none⟩,
 ⟨(some 63), .mv (.t 1), none⟩,
 ⟨(some 64), .mv (.t 7), none⟩,
 ⟨(some 65), .bin .add (.t 63) (.t 64), none⟩,
 ⟨(some 66), .slc false 1 (.t 62) (some (.t 65)) none none, none⟩,
 ⟨(some 67), .ovl 1 (.t 61) (.t 66), none⟩,
 ⟨(some 68), .un .not (.t 67), none⟩])
 (.cond (.t 68)
 (.seq (.seq (.thw 0)
 (.regD [⟨(some 69), .mv (.t 0), none⟩,
 ⟨(some 70), .mv (.t 1), none⟩,
 ⟨(some 71), .mv (.t 7), none⟩,
 ⟨(some 72), .bin .add (.t 70) (.t 71), none⟩,
 ⟨(some 73), .slc false 1 (.t 69) (some (.t 72)) none none, none⟩,
 ⟨(some 74), .mv (.t 0), none⟩,
 ⟨(some 75), .mv (.t 1), none⟩,
 ⟨(some 76), .slc false 1 (.t 74) (some (.t 75)) none none, none⟩,
 ⟨(some 77), .cp0 1 (.t 73) (.t 76), none⟩] []))
 (.seq (.seq (.thw 0)
 (.reg [⟨(some 78), .mv (.t 0), none⟩,
 ⟨(some 79), .mv (.t 1), none⟩,
 ⟨(some 80), .slc false 1 (.t 78) (some (.t 79)) none none, none⟩,
 ⟨(some 81), .mv (.t 2), none⟩,
 ⟨(some 82), .cp0 1 (.t 80) (.t 81), none⟩]))
 (.seq (.reg [⟨(some 83), .mv (.t 0), none⟩,
 ⟨(some 6), .mv (.t 83), none⟩])
 .ret)))
 .skip))
 (.seq (.seq (.thw 0)
 (.reg [⟨(some 84), .mv (.t 0), none⟩,
 ⟨(some 85), .mv (.t 8), none⟩,
 ⟨(some 86), .slc false 1 (.t 84) (some (.t 85)) none none, none⟩,
 ⟨(some 87), .mv (.t 2), none⟩,
 ⟨(some 88), .cp0 1 (.t 86) (.t 87), none⟩]))
 (.seq (.reg [⟨(some 89), .mv (.t 0), none⟩,
 ⟨(some 90), .mv (.t 1), none⟩,
 ⟨(some 91), .slc false 1 (.t 89) (some (.t 90)) none none, none⟩,
 ⟨(some 92), .mv (.t 7), none⟩,
 ⟨(some 93), .call f_slices_rotateRight_string [(.t 91), (.t 92)], none⟩])
 (.seq (.reg [⟨(some 94), .mv (.t 0), none⟩,
 ⟨(some 6), .mv (.t 94), none⟩])
 .ret)))))))))))) }
def c_slices_Insert_api_Node_api_Node : Fun := { cin := [], cout := [], ntmps := 95, keep := false, res := [(6, none)], body :=
 (.seq (.reg [⟨(some 6), .mv (.c .nsl), none⟩])
 (.seq (.reg [⟨(some 10), .mv (.t 0), none⟩,
 ⟨(some 11), .mv (.t 1), none⟩,
 ⟨(some 12), .slc false 4 (.t 10) (some (.t 11)) none none, none⟩])
 (.seq (.reg [⟨(some 13), .mv (.t 2), none⟩,
 ⟨(some 14), .len 1 (.t 13), none⟩,
 ⟨(some 7), .mv (.t 14), none⟩])
 (.seq (.seq (.reg [⟨(some 15), .mv (.t 7), none⟩,
 ⟨(some 16), .bin .eql (.t 15) (.c (.i .i64 0)), none⟩])
 (.cond (.t 16)
 (.seq (.reg [⟨(some 17), .mv (.t 0), none⟩,
 ⟨(some 6), .mv (.t 17), none⟩])
 .ret)
 .skip))
 (.seq (.reg [⟨(some 18), .mv (.t 0), none⟩,
 ⟨(some 19), .len 1 (.t 18), none⟩,
 ⟨(some 8), .mv (.t 19), none⟩])
 (.seq (.seq (.reg [⟨(some 20), .mv (.t 1), none⟩,
 ⟨(some 21), .mv (.t 8), none⟩,
 ⟨(some 22), .bin .eql (.t 20) (.t 21), none⟩])
 (.cond (.t 22)
 (.seq (.reg [⟨(some 23), .mv (.t 0), none⟩,
 ⟨(some 24), .mv (.t 2), none⟩,
 ⟨(some 25), .app 4 49 (.t 23) (.t 24), none⟩,
 ⟨(some 6), .mv (.t 25), none⟩])
 .ret)
 .skip))
 (.seq (.seq (.reg [⟨(some 26), .mv (.t 8), none⟩,
 ⟨(some 27), .mv (.t 7), none⟩,
 ⟨(some 28), .bin .add (.t 26) (.t 27), none⟩,
 ⟨(some 29), .mv (.t 0), none⟩,
 ⟨(some 30), .cap (.t 29), none⟩,
 ⟨(some 31), .bin .gtr (.t 28) (.t 30), none⟩])
 (.cond (.t 31)
 (.seq (.reg [⟨(some 32), .mv (.t 0), none⟩,
 ⟨(some 33), .mv (.t 1), none⟩,
 ⟨(some 34), .slc false 4 (.t 32) none (some (.t 33)) none, none⟩,
 ⟨(some 35), .mv (.t 8), none⟩,
 ⟨(some 36), .mv (.t 7), none⟩,
 ⟨(some 37), .bin .add (.t 35) (.t 36), none⟩,
 ⟨(some 38), .mv (.t 1), none⟩,
 ⟨(some 39), .bin .sub (.t 37) (.t 38), none⟩,
 ⟨(some 40), .apz 4 49 [(.i .u8 0), (.s []), .nsl, .nsl] (.t 34) (.t 39), none⟩,
 ⟨(some 9), .mv (.t 40), none⟩])
 (.seq (.seq (.thw 9)
 (.reg [⟨(some 41), .mv (.t 9), none⟩,
 ⟨(some 42), .mv (.t 1), none⟩,
 ⟨(some 43), .slc false 4 (.t 41) (some (.t 42)) none none, none⟩,
 ⟨(some 44), .mv (.t 2), none⟩,
 ⟨(some 45), .cp0 4 (.t 43) (.t 44), none⟩]))
 (.seq (.seq (.thw 9)
 (.regD [⟨(some 46), .mv (.t 9), none⟩,
 ⟨(some 47), .mv (.t 1), none⟩,
 ⟨(some 48), .mv (.t 7), none⟩,
 ⟨(some 49), .bin .add (.t 47) (.t 48), none⟩,
 ⟨(some 50), .slc false 4 (.t 46) (some (.t 49)) none none, none⟩,
 ⟨(some 51), .mv (.t 0), none⟩,
 ⟨(some 52), .mv (.t 1), none⟩,
 ⟨(some 53), .slc false 4 (.t 51) (some (.t 52)) none none, none⟩,
 ⟨(some 54), .cp0 4 (.t 50) (.t 53), none⟩] []))
 (.seq (.reg [⟨(some 55), .mv (.t 9), none⟩,
 ⟨(some 6), .mv (.t 55), none⟩])
 .ret))))
 .skip))
 (.seq (.reg [⟨(some 56), .mv (.t 0), none⟩,
 ⟨(some 57), .mv (.t 8), none⟩,
 ⟨(some 58), .mv (.t 7), none⟩,
 ⟨(some 59), .bin .add (.t 57) (.t 58), none⟩,
 ⟨(some 60), .slc true 4 (.t 56) none (some (.t 59)) none, none⟩,
 ⟨(some 0), .mv (.t 60), none⟩])
 (.seq (.seq (.reg [⟨(some 61), .mv (.t 2), none⟩,
 ⟨(some 62), .mv (.t 0), none⟩,
 ⟨(some 63), .mv (.t 1), none⟩,
 ⟨(some 64), .mv (.t 7), none⟩,
 ⟨(some 65), .bin .add (.t 63) (.t 64), none⟩,
 ⟨(some 66), .slc false 4 (.t 62) (some (.t 65)) none none, none⟩,
 ⟨(some 67), .ovl 4 (.t 61) (.t 66), none⟩,
 ⟨(some 68), .un .not (.t 67), none⟩])
 (.cond (.t 68)
 (.seq (.seq (.thw 0)
 (.regD [⟨(some 69), .mv (.t 0), none⟩,
 ⟨(some 70), .mv (.t 1), none⟩,
 ⟨(some 71), .mv (.t 7), none⟩,
 ⟨(some 72), .bin .add (.t 70) (.t 71), none⟩,
 ⟨(some 73), .slc false 4 (.t 69) (some (.t 72)) none none, none⟩,
 ⟨(some 74), .mv (.t 0), none⟩,
 ⟨(some 75), .mv (.t 1), none⟩,
 ⟨(some 76), .slc false 4 (.t 74) (some (.t 75)) none none, none⟩,
 ⟨(some 77), .cp0 4 (.t 73) (.t 76), none⟩] []))
 (.seq (.seq (.thw 0)
 (.reg [⟨(some 78), .mv (.t 0), none⟩,
 ⟨(some 79), .mv (.t 1), none⟩,
 ⟨(some 80), .slc false 4 (.t 78) (some (.t 79)) none none, none⟩,
 ⟨(some 81), .mv (.t 2), none⟩,
 ⟨(some 82), .cp0 4 (.t 80) (.t 81), none⟩]))
 (.seq (.reg [⟨(some 83), .mv (.t 0), none⟩,
 ⟨(some 6), .mv (.t 83), none⟩])
 .ret)))
 .skip))
 (.seq (.seq (.thw 0)
 (.reg [⟨(some 84), .mv (.t 0), none⟩,
 ⟨(some 85), .mv (.t 8), none⟩,
 ⟨(some 86), .slc false 4 (.t 84) (some (.t 85)) none none, none⟩,
 ⟨(some 87), .mv (.t 2), none⟩,
 ⟨(some 88), .cp0 4 (.t 86) (.t 87), none⟩]))
 (.seq (.reg [⟨(some 89), .mv (.t 0), none⟩,
 ⟨(some 90), .mv (.t 1), none⟩,
 ⟨(some 91), .slc false 4 (.t 89) (some (.t 90)) none none, none⟩,
 ⟨(some 92), .mv (.t 7), none⟩,
 ⟨(some 93), .call f_slices_rotateRight_api_Node [(.t 91), (.t 92)], none⟩])
 (.seq (.reg [⟨(some 94), .mv (.t 0), none⟩,
 ⟨(some 6), .mv (.t 94), none⟩])
 .ret)))))))))))) }
def c_ftree_Well : Fun := { cin := [(.agg [.id, .id, (.sl 1 .id), (.sl 4 (.agg [.id, .id, (.sl 1 .id), (.sl 4 (.agg [.id, .id, (.sl 1 .id), (.sl 4 .id)]))]))])], cout := [.id], ntmps := 89, keep := false, res := [(2, none)], body :=
 (.seq (.reg [⟨(some 1), .box 49 4 (.t 0), none⟩,
 ⟨(some 2), .mv (.c (.b false)), none⟩])
 (.seq (.seq (.reg [⟨(some 5), .fa 0 (.t 1), none⟩,
 ⟨(some 6), .ld false 1 (.t 5), none⟩])
 (.blk 0 (.seq (.seq (.reg [⟨(some 8), .bin .eql (.t 6) (.c (.i .u8 1)), none⟩,
 ⟨(some 7), .mv (.t 8), none⟩])
 (.cond (.t 7)
 .skip
 (.reg [⟨(some 9), .bin .eql (.t 6) (.c (.i .u8 3)), none⟩,
 ⟨(some 7), .mv (.t 9), none⟩])))
 (.cond (.t 7)
 (.seq (.reg [⟨(some 10), .fa 2 (.t 1), none⟩,
 ⟨(some 11), .ld false 1 (.t 10), none⟩,
 ⟨(some 12), .len 1 (.t 11), none⟩,
 ⟨(some 13), .fa 3 (.t 1), none⟩,
 ⟨(some 14), .ld false 1 (.t 13), none⟩,
 ⟨(some 15), .len 1 (.t 14), none⟩,
 ⟨(some 16), .bin .add (.t 12) (.t 15), none⟩,
 ⟨(some 17), .bin .eql (.t 16) (.c (.i .i64 0)), none⟩,
 ⟨(some 18), .mv (.t 17), none⟩,
 ⟨(some 19), .fa 1 (.t 1), (some (18, true))⟩,
 ⟨(some 20), .ld false 1 (.t 19), (some (18, true))⟩,
 ⟨(some 21), .len 0 (.t 20), (some (18, true))⟩,
 ⟨(some 22), .bin .leq (.t 21) (.c (.i .i64 256)), (some (18, true))⟩,
 ⟨(some 23), .pick (.t 18) (.t 22) (.c (.b false)), none⟩,
 ⟨(some 24), .mv (.t 23), none⟩,
 ⟨(some 25), .fa 1 (.t 1), (some (24, true))⟩,
 ⟨(some 26), .ld false 1 (.t 25), (some (24, true))⟩,
 ⟨(some 27), .call f_strings_IndexByte [(.t 26), (.c (.i .u8 0))], (some (24, true))⟩,
 ⟨(some 28), .bin .lss (.t 27) (.c (.i .i64 0)), (some (24, true))⟩,
 ⟨(some 29), .pick (.t 24) (.t 28) (.c (.b false)), none⟩,
 ⟨(some 30), .mv (.t 29), none⟩,
 ⟨(some 31), .fa 0 (.t 1), (some (30, true))⟩,
 ⟨(some 32), .ld false 1 (.t 31), (some (30, true))⟩,
 ⟨(some 33), .bin .eql (.t 32) (.c (.i .u8 1)), (some (30, true))⟩,
 ⟨(some 34), .mv (.t 33), (some (30, true))⟩,
 ⟨(some 35), .fa 1 (.t 1), (some (34, false))⟩,
 ⟨(some 36), .ld false 1 (.t 35), (some (34, false))⟩,
 ⟨(some 37), .bin .neq (.t 36) (.c (.s [])), (some (34, false))⟩,
 ⟨(some 38), .pick (.t 34) (.c (.b true)) (.t 37), (some (30, true))⟩,
 ⟨(some 39), .pick (.t 30) (.t 38) (.c (.b false)), none⟩,
 ⟨(some 2), .mv (.t 39), none⟩])
 .ret)
 (.seq (.reg [⟨(some 41), .bin .eql (.t 6) (.c (.i .u8 2)), none⟩,
 ⟨(some 40), .mv (.t 41), none⟩])
 (.cond (.t 40)
 (.seq (.seq (.reg [⟨(some 42), .fa 1 (.t 1), none⟩,
 ⟨(some 43), .ld false 1 (.t 42), none⟩,
 ⟨(some 44), .bin .neq (.t 43) (.c (.s [])), none⟩,
 ⟨(some 45), .mv (.t 44), none⟩,
 ⟨(some 46), .fa 2 (.t 1), (some (45, false))⟩,
 ⟨(some 47), .ld false 1 (.t 46), (some (45, false))⟩,
 ⟨(some 48), .len 1 (.t 47), (some (45, false))⟩,
 ⟨(some 49), .fa 3 (.t 1), (some (45, false))⟩,
 ⟨(some 50), .ld false 1 (.t 49), (some (45, false))⟩,
 ⟨(some 51), .len 1 (.t 50), (some (45, false))⟩,
 ⟨(some 52), .bin .neq (.t 48) (.t 51), (some (45, false))⟩,
 ⟨(some 53), .pick (.t 45) (.c (.b true)) (.t 52), none⟩])
 (.cond (.t 53)
 (.seq (.reg [⟨(some 2), .mv (.c (.b false)), none⟩])
 .ret)
 .skip))
 (.seq (.seq (.reg [⟨(some 54), .fa 2 (.t 1), none⟩,
 ⟨(some 55), .ld false 1 (.t 54), none⟩,
 ⟨(some 56), .len 1 (.t 55), none⟩,
 ⟨(some 57), .mv (.c (.i .i64 0)), none⟩])
 (.blk 1 (.loop (.seq (.reg [⟨(some 58), .bin .lss (.t 57) (.t 56), none⟩])
 (.seq (.cond (.t 58)
 .skip
 (.exit 1))
 (.seq (.blk 2 (.seq (.reg [⟨(some 59), .mv (.t 57), none⟩,
 ⟨(some 60), .ia 1 (.t 55) (.t 57), none⟩,
 ⟨(some 61), .ld false 1 (.t 60), none⟩,
 ⟨(some 3), .mv (.t 59), none⟩,
 ⟨(some 4), .mv (.t 61), none⟩])
 (.seq (.reg [⟨(some 62), .mv (.t 4), none⟩,
 ⟨(some 63), .call f_path_Name [(.t 62)], none⟩,
 ⟨(some 64), .un .not (.t 63), none⟩,
 ⟨(some 65), .mv (.t 64), none⟩,
 ⟨(some 66), .mv (.t 3), (some (65, false))⟩,
 ⟨(some 67), .bin .gtr (.t 66) (.c (.i .i64 0)), (some (65, false))⟩,
 ⟨(some 68), .mv (.t 67), (some (65, false))⟩,
 ⟨(some 69), .mv (.t 4), (some (68, true))⟩,
 ⟨(some 70), .fa 2 (.t 1), (some (68, true))⟩,
 ⟨(some 71), .ld false 1 (.t 70), (some (68, true))⟩,
 ⟨(some 72), .mv (.t 3), (some (68, true))⟩,
 ⟨(some 73), .bin .sub (.t 72) (.c (.i .i64 1)), (some (68, true))⟩,
 ⟨(some 74), .ia 1 (.t 71) (.t 73), (some (68, true))⟩,
 ⟨(some 75), .ld false 1 (.t 74), (some (68, true))⟩,
 ⟨(some 76), .bin .leq (.t 69) (.t 75), (some (68, true))⟩,
 ⟨(some 77), .pick (.t 68) (.t 76) (.c (.b false)), (some (65, false))⟩,
 ⟨(some 78), .pick (.t 65) (.c (.b true)) (.t 77), none⟩,
 ⟨(some 79), .mv (.t 78), none⟩,
 ⟨(some 80), .fa 3 (.t 1), (some (79, false))⟩,
 ⟨(some 81), .ld false 1 (.t 80), (some (79, false))⟩,
 ⟨(some 82), .mv (.t 3), (some (79, false))⟩,
 ⟨(some 83), .ia 4 (.t 81) (.t 82), (some (79, false))⟩,
 ⟨(some 84), .ld true 4 (.t 83), (some (79, false))⟩,
 ⟨(some 85), .call f_ftree_Well [(.t 84)], (some (79, false))⟩,
 ⟨(some 86), .un .not (.t 85), (some (79, false))⟩,
 ⟨(some 87), .pick (.t 79) (.c (.b true)) (.t 86), none⟩])
 (.cond (.t 87)
 (.seq (.reg [⟨(some 2), .mv (.c (.b false)), none⟩])
 .ret)
 .skip))))
 (.reg [⟨(some 88), .bin .add (.t 57) (.c (.i .i64 1)), none⟩,
 ⟨(some 57), .mv (.t 88), none⟩])))))))
 (.seq (.reg [⟨(some 2), .mv (.c (.b true)), none⟩])
 .ret)))
 .skip))))))
 (.seq (.reg [⟨(some 2), .mv (.c (.b false)), none⟩])
 .ret))) }
def c_ftree_Nodes : Fun := { cin := [(.agg [.id, .id, (.sl 1 .id), (.sl 4 (.agg [.id, .id, (.sl 1 .id), (.sl 4 (.agg [.id, .id, (.sl 1 .id), (.sl 4 .id)]))]))])], cout := [.id], ntmps := 19, keep := false, res := [(2, none)], body :=
 (.seq (.reg [⟨(some 1), .box 49 4 (.t 0), none⟩,
 ⟨(some 2), .mv (.c (.i .i64 0)), none⟩])
 (.seq (.reg [⟨(some 3), .mv (.c (.i .i64 1)), none⟩])
 (.seq (.seq (.reg [⟨(some 6), .fa 3 (.t 1), none⟩,
 ⟨(some 7), .ld false 1 (.t 6), none⟩,
 ⟨(some 8), .len 1 (.t 7), none⟩,
 ⟨(some 9), .mv (.c (.i .i64 0)), none⟩])
 (.blk 0 (.loop (.seq (.reg [⟨(some 10), .bin .lss (.t 9) (.t 8), none⟩])
 (.seq (.cond (.t 10)
 .skip
 (.exit 0))
 (.seq (.blk 1 (.seq (.reg [⟨(some 11), .ia 4 (.t 7) (.t 9), none⟩,
 ⟨(some 12), .ld true 4 (.t 11), none⟩,
 ⟨(some 5), .alloc 49 [(.i .u8 0), (.s []), .nsl, .nsl], none⟩,
 ⟨none, .st 4 (.t 5) (.t 12), none⟩])
 (.reg [⟨(some 13), .mv (.t 3), none⟩,
 ⟨(some 14), .ld true 4 (.t 5), none⟩,
 ⟨(some 15), .call f_ftree_Nodes [(.t 14)], none⟩,
 ⟨(some 16), .bin .add (.t 13) (.t 15), none⟩,
 ⟨(some 3), .mv (.t 16), none⟩])))
 (.reg [⟨(some 17), .bin .add (.t 9) (.c (.i .i64 1)), none⟩,
 ⟨(some 9), .mv (.t 17), none⟩])))))))
 (.seq (.reg [⟨(some 18), .mv (.t 3), none⟩,
 ⟨(some 2), .mv (.t 18), none⟩])
 .ret)))) }
def c_ftree_depth : Fun := { cin := [(.agg [.id, .id, (.sl 1 .id), (.sl 4 (.agg [.id, .id, (.sl 1 .id), (.sl 4 (.agg [.id, .id, (.sl 1 .id), (.sl 4 .id)]))]))])], cout := [.id], ntmps := 20, keep := false, res := [(2, none)], body :=
 (.seq (.reg [⟨(some 1), .box 49 4 (.t 0), none⟩,
 ⟨(some 2), .mv (.c (.i .i64 0)), none⟩])
 (.seq (.reg [⟨(some 3), .mv (.c (.i .i64 0)), none⟩])
 (.seq (.seq (.reg [⟨(some 6), .fa 3 (.t 1), none⟩,
 ⟨(some 7), .ld false 1 (.t 6), none⟩,
 ⟨(some 8), .len 1 (.t 7), none⟩,
 ⟨(some 9), .mv (.c (.i .i64 0)), none⟩])
 (.blk 0 (.loop (.seq (.reg [⟨(some 10), .bin .lss (.t 9) (.t 8), none⟩])
 (.seq (.cond (.t 10)
 .skip
 (.exit 0))
 (.seq (.blk 1 (.seq (.reg [⟨(some 11), .ia 4 (.t 7) (.t 9), none⟩,
 ⟨(some 12), .ld true 4 (.t 11), none⟩,
 ⟨(some 5), .alloc 49 [(.i .u8 0), (.s []), .nsl, .nsl], none⟩,
 ⟨none, .st 4 (.t 5) (.t 12), none⟩])
 (.reg [⟨(some 13), .mv (.t 3), none⟩,
 ⟨(some 14), .ld true 4 (.t 5), none⟩,
 ⟨(some 15), .call f_ftree_depth [(.t 14)], none⟩,
 ⟨(some 16), .bin .add (.c (.i .i64 1)) (.t 15), none⟩,
 ⟨(some 17), .mm true (.t 13) (.t 16), none⟩,
 ⟨(some 3), .mv (.t 17), none⟩])))
 (.reg [⟨(some 18), .bin .add (.t 9) (.c (.i .i64 1)), none⟩,
 ⟨(some 9), .mv (.t 18), none⟩])))))))
 (.seq (.reg [⟨(some 19), .mv (.t 3), none⟩,
 ⟨(some 2), .mv (.t 19), none⟩])
 .ret)))) }
def c_ftree_New : Fun := { cin := [(.agg [.id, .id, (.sl 1 .id), (.sl 4 (.agg [.id, .id, (.sl 1 .id), (.sl 4 (.agg [.id, .id, (.sl 1 .id), (.sl 4 .id)]))]))])], cout := [.id, .id], ntmps := 11, keep := false, res := [(2, none), (3, none)], body :=
 (.seq (.reg [⟨(some 1), .box 49 4 (.t 0), none⟩,
 ⟨(some 2), .mv (.c .np), none⟩,
 ⟨(some 3), .mv (.c (.i .i64 0)), none⟩])
 (.seq (.seq (.reg [⟨(some 4), .ld true 4 (.t 1), none⟩,
 ⟨(some 5), .call f_ftree_May [(.t 4)], none⟩,
 ⟨(some 6), .un .not (.t 5), none⟩])
 (.cond (.t 6)
 (.seq (.reg [⟨(some 2), .mv (.c .np), none⟩,
 ⟨(some 3), .mv (.c (.i .i64 4)), none⟩])
 .ret)
 .skip))
 (.seq (.reg [⟨(some 7), .ld true 4 (.t 1), none⟩,
 ⟨(some 8), .call f_ftree_own [(.t 7)], none⟩,
 ⟨(some 9), .build [(.i .u8 0), (.s []), .nsl, .nsl] [(0, 4, (.t 8))], none⟩,
 ⟨(some 10), .box 181 4 (.t 9), none⟩,
 ⟨(some 2), .mv (.t 10), none⟩,
 ⟨(some 3), .mv (.c (.i .i64 0)), none⟩])
 .ret))) }
def c_dirs_utilities : Fun := { cin := [], cout := [.id], ntmps := 11, keep := false, res := [(0, none)], body :=
 (.seq (.reg [⟨(some 0), .mv (.c .nm), none⟩])
 (.seq (.reg [⟨(some 1), .mv (.c (.fn f_dirs_utilities_1 [])), none⟩])
 (.seq (.reg [⟨(some 2), .mkm, none⟩,
 ⟨(some 3), .mv (.t 1), none⟩,
 ⟨(some 4), .build [(.s []), .nf, .nf] [(0, 1, (.c (.s [112]))), (1, 1, (.t 3)), (2, 1, (.c (.fn f_dirs_call_mkdir [])))], none⟩,
 ⟨none, .ins 1 (.t 2) (.c (.s [109, 107, 100, 105, 114])) (.t 4), none⟩,
 ⟨(some 5), .mv (.t 1), none⟩,
 ⟨(some 6), .build [(.s []), .nf, .nf] [(0, 1, (.c (.s []))), (1, 1, (.t 5)), (2, 1, (.c (.fn f_dirs_call_rmdir [])))], none⟩,
 ⟨none, .ins 1 (.t 2) (.c (.s [114, 109, 100, 105, 114])) (.t 6), none⟩,
 ⟨(some 7), .mv (.t 1), none⟩,
 ⟨(some 8), .build [(.s []), .nf, .nf] [(0, 1, (.c (.s []))), (1, 1, (.t 7)), (2, 1, (.c (.fn f_dirs_call_touch [])))], none⟩,
 ⟨none, .ins 1 (.t 2) (.c (.s [116, 111, 117, 99, 104])) (.t 8), none⟩,
 ⟨(some 9), .build [(.s []), .nf, .nf] [(0, 1, (.c (.s [102, 114]))), (1, 1, (.c (.fn f_dirs_utilities_2 []))), (2, 1, (.c (.fn f_dirs_call_rm [])))], none⟩,
 ⟨none, .ins 1 (.t 2) (.c (.s [114, 109])) (.t 9), none⟩,
 ⟨(some 10), .mv (.t 2), none⟩,
 ⟨(some 0), .mv (.t 10), none⟩])
 .ret))) }
def c_opts_Parse : Fun := { cin := [.id, (.sl 1 .id), .id, .id], cout := [(.agg [.id, (.sl 1 .id)]), .id], ntmps := 111, keep := false, res := [(8, some (true, 2)), (9, none)], body :=
 (.seq (.reg [⟨(some 8), .alloc 156 [(.s []), .nsl], none⟩,
 ⟨(some 9), .mv (.c (.i .i64 0)), none⟩])
 (.seq (.reg [⟨(some 18), .mv (.t 2), none⟩,
 ⟨(some 19), .bin .lss (.t 18) (.c (.i .i64 0)), none⟩,
 ⟨(some 20), .mv (.t 19), none⟩,
 ⟨(some 21), .mv (.t 3), (some (20, false))⟩,
 ⟨(some 22), .mv (.t 2), (some (20, false))⟩,
 ⟨(some 23), .bin .lss (.t 21) (.t 22), (some (20, false))⟩,
 ⟨(some 24), .pick (.t 20) (.c (.b true)) (.t 23), none⟩,
 ⟨(some 10), .mv (.t 24), none⟩])
 (.seq (.seq (.reg [⟨(some 25), .mv (.t 0), none⟩,
 ⟨(some 26), .len 0 (.t 25), none⟩,
 ⟨(some 27), .mv (.c (.i .i64 0)), none⟩])
 (.blk 0 (.loop (.seq (.reg [⟨(some 28), .bin .lss (.t 27) (.t 26), none⟩])
 (.seq (.cond (.t 28)
 .skip
 (.exit 0))
 (.seq (.blk 1 (.seq (.reg [⟨(some 29), .mv (.t 27), none⟩,
 ⟨(some 11), .mv (.t 29), none⟩])
 (.reg [⟨(some 30), .mv (.t 10), none⟩,
 ⟨(some 31), .mv (.t 30), none⟩,
 ⟨(some 32), .mv (.t 0), (some (31, false))⟩,
 ⟨(some 33), .mv (.t 11), (some (31, false))⟩,
 ⟨(some 34), .ixS (.t 32) (.t 33), (some (31, false))⟩,
 ⟨(some 35), .call f_opts_letter [(.t 34)], (some (31, false))⟩,
 ⟨(some 36), .un .not (.t 35), (some (31, false))⟩,
 ⟨(some 37), .pick (.t 31) (.c (.b true)) (.t 36), none⟩,
 ⟨(some 10), .mv (.t 37), none⟩])))
 (.reg [⟨(some 38), .bin .add (.t 27) (.c (.i .i64 1)), none⟩,
 ⟨(some 27), .mv (.t 38), none⟩])))))))
 (.seq (.seq (.reg [⟨(some 39), .mv (.t 10), none⟩])
 (.cond (.t 39)
 (.seq (.reg [⟨(some 40), .build [(.s []), .nsl] [], none⟩,
 ⟨none, .st 2 (.t 8) (.t 40), none⟩,
 ⟨(some 9), .mv (.c (.i .i64 1)), none⟩])
 .ret)
 .skip))
 (.seq (.reg [⟨(some 12), .alloc 182 [(.b false), (.b false), (.b false), (.b false), (.b false), (.b false), (.b false), (.b false), (.b false), (.b false), (.b false), (.b false), (.b false), (.b false), (.b false), (.b false), (.b false), (.b false), (.b false), (.b false), (.b false), (.b false), (.b false), (.b false), (.b false), (.b false), (.b false), (.b false), (.b false), (.b false), (.b false), (.b false), (.b false), (.b false), (.b false), (.b false), (.b false), (.b false), (.b false), (.b false), (.b false), (.b false), (.b false), (.b false), (.b false), (.b false), (.b false), (.b false), (.b false), (.b false), (.b false), (.b false), (.b false), (.b false), (.b false), (.b false), (.b false), (.b false), (.b false), (.b false), (.b false), (.b false), (.b false), (.b false), (.b false), (.b false), (.b false), (.b false), (.b false), (.b false), (.b false), (.b false), (.b false), (.b false), (.b false), (.b false), (.b false), (.b false), (.b false), (.b false), (.b false), (.b false), (.b false), (.b false), (.b false), (.b false), (.b false), (.b false), (.b false), (.b false), (.b false), (.b false), (.b false), (.b false), (.b false), (.b false), (.b false), (.b false), (.b false), (.b false), (.b false), (.b false), (.b false), (.b false), (.b false), (.b false), (.b false), (.b false), (.b false), (.b false), (.b false), (.b false), (.b false), (.b false), (.b false), (.b false), (.b false), (.b false), (.b false), (.b false), (.b false), (.b false), (.b false), (.b false), (.b false), (.b false), (.b false), (.b false), (.b false), (.b false), (.b false), (.b false), (.b false), (.b false), (.b false), (.b false), (.b false), (.b false), (.b false), (.b false), (.b false), (.b false), (.b false), (.b false), (.b false), (.b false), (.b false), (.b false), (.b false), (.b false), (.b false), (.b false), (.b false), (.b false), (.b false), (.b false), (.b false), (.b false), (.b false), (.b false), (.b false), (.b false), (.b false), (.b false), (.b false), (.b false), (.b false), (.b false), (.b false), (.b false), (.b false), (.b false), (.b false), (.b false), (.b false), (.b false), (.b false), (.b false), (.b false), (.b false), (.b false), (.b false), (.b false), (.b false), (.b false), (.b false), (.b false), (.b false), (.b false), (.b false), (.b false), (.b false), (.b false), (.b false), (.b false), (.b false), (.b false), (.b false), (.b false), (.b false), (.b false), (.b false), (.b false), (.b false), (.b false), (.b false), (.b false), (.b false), (.b false), (.b false), (.b false), (.b false), (.b false), (.b false), (.b false), (.b false), (.b false), (.b false), (.b false), (.b false), (.b false), (.b false), (.b false), (.b false), (.b false), (.b false), (.b false), (.b false), (.b false), (.b false), (.b false), (.b false), (.b false), (.b false), (.b false), (.b false), (.b false), (.b false), (.b false), (.b false), (.b false), (.b false), (.b false), (.b false), (.b false), (.b false), (.b false), (.b false), (.b false), (.b false), (.b false), (.b false), (.b false), (.b false), (.b false), (.b false)], none⟩])
 (.seq (.blk 2 (.loop (.seq (.seq (.reg [⟨(some 41), .mv (.t 1), none⟩,
 ⟨(some 42), .len 1 (.t 41), none⟩,
 ⟨(some 43), .bin .gtr (.t 42) (.c (.i .i64 0)), none⟩,
 ⟨(some 44), .mv (.t 43), none⟩,
 ⟨(some 45), .mv (.t 1), (some (44, true))⟩,
 ⟨(some 46), .ia 1 (.t 45) (.c (.i .i64 0)), (some (44, true))⟩,
 ⟨(some 47), .ld false 1 (.t 46), (some (44, true))⟩,
 ⟨(some 48), .len 0 (.t 47), (some (44, true))⟩,
 ⟨(some 49), .bin .gtr (.t 48) (.c (.i .i64 1)), (some (44, true))⟩,
 ⟨(some 50), .pick (.t 44) (.t 49) (.c (.b false)), none⟩,
 ⟨(some 51), .mv (.t 50), none⟩,
 ⟨(some 52), .mv (.t 1), (some (51, true))⟩,
 ⟨(some 53), .ia 1 (.t 52) (.c (.i .i64 0)), (some (51, true))⟩,
 ⟨(some 54), .ld false 1 (.t 53), (some (51, true))⟩,
 ⟨(some 55), .ixS (.t 54) (.c (.i .i64 0)), (some (51, true))⟩,
 ⟨(some 56), .bin .eql (.t 55) (.c (.i .u8 45)), (some (51, true))⟩,
 ⟨(some 57), .pick (.t 51) (.t 56) (.c (.b false)), none⟩])
 (.cond (.t 57)
 .skip
 (.exit 2)))
 (.blk 3 (.seq (.reg [⟨(some 58), .mv (.t 1), none⟩,
 ⟨(some 59), .ia 1 (.t 58) (.c (.i .i64 0)), none⟩,
 ⟨(some 60), .ld false 1 (.t 59), none⟩,
 ⟨(some 61), .slS (.t 60) (some (.c (.i .i64 1))) none, none⟩,
 ⟨(some 13), .mv (.t 61), none⟩])
 (.seq (.reg [⟨(some 62), .mv (.t 1), none⟩,
 ⟨(some 63), .slc false 1 (.t 62) (some (.c (.i .i64 1))) none none, none⟩,
 ⟨(some 1), .mv (.t 63), none⟩])
 (.seq (.seq (.reg [⟨(some 64), .mv (.t 13), none⟩,
 ⟨(some 65), .bin .eql (.t 64) (.c (.s [45])), none⟩])
 (.cond (.t 65)
 (.exit 2)
 .skip))
 (.seq (.reg [⟨(some 66), .mv (.t 13), none⟩,
 ⟨(some 67), .len 0 (.t 66), none⟩,
 ⟨(some 68), .mv (.c (.i .i64 0)), none⟩])
 (.blk 4 (.loop (.seq (.reg [⟨(some 69), .bin .lss (.t 68) (.t 67), none⟩])
 (.seq (.cond (.t 69)
 .skip
 (.exit 4))
 (.seq (.blk 5 (.seq (.reg [⟨(some 70), .mv (.t 68), none⟩,
 ⟨(some 14), .mv (.t 70), none⟩])
 (.seq (.seq (.reg [⟨(some 71), .mv (.t 0), none⟩,
 ⟨(some 72), .mv (.t 13), none⟩,
 ⟨(some 73), .mv (.t 14), none⟩,
 ⟨(some 74), .ixS (.t 72) (.t 73), none⟩,
 ⟨(some 75), .call f_strings_IndexByte [(.t 71), (.t 74)], none⟩,
 ⟨(some 76), .bin .lss (.t 75) (.c (.i .i64 0)), none⟩])
 (.cond (.t 76)
 (.seq (.reg [⟨(some 77), .build [(.s []), .nsl] [], none⟩,
 ⟨none, .st 2 (.t 8) (.t 77), none⟩,
 ⟨(some 9), .mv (.c (.i .i64 62)), none⟩])
 .ret)
 .skip))
 (.reg [⟨(some 78), .mv (.t 13), none⟩,
 ⟨(some 79), .mv (.t 14), none⟩,
 ⟨(some 80), .ixS (.t 78) (.t 79), none⟩,
 ⟨(some 81), .iaA 256 1 (.t 12) (.t 80), none⟩,
 ⟨none, .st 1 (.t 81) (.c (.b true)), none⟩]))))
 (.reg [⟨(some 82), .bin .add (.t 68) (.c (.i .i64 1)), none⟩,
 ⟨(some 68), .mv (.t 82), none⟩]))))))))))))))
 (.seq (.seq (.reg [⟨(some 83), .mv (.t 1), none⟩,
 ⟨(some 84), .len 1 (.t 83), none⟩,
 ⟨(some 85), .mv (.t 2), none⟩,
 ⟨(some 86), .bin .lss (.t 84) (.t 85), none⟩,
 ⟨(some 87), .mv (.t 86), none⟩,
 ⟨(some 88), .mv (.t 1), (some (87, false))⟩,
 ⟨(some 89), .len 1 (.t 88), (some (87, false))⟩,
 ⟨(some 90), .mv (.t 3), (some (87, false))⟩,
 ⟨(some 91), .bin .gtr (.t 89) (.t 90), (some (87, false))⟩,
 ⟨(some 92), .pick (.t 87) (.c (.b true)) (.t 91), none⟩])
 (.cond (.t 92)
 (.seq (.reg [⟨(some 93), .build [(.s []), .nsl] [], none⟩,
 ⟨none, .st 2 (.t 8) (.t 93), none⟩,
 ⟨(some 9), .mv (.c (.i .i64 62)), none⟩])
 .ret)
 .skip))
 (.seq (.reg [⟨(some 15), .mv (.c .nsl), none⟩])
 (.seq (.seq (.reg [⟨(some 94), .ld true 256 (.t 12), none⟩,
 ⟨(some 95), .mv (.c (.i .i64 0)), none⟩])
 (.blk 6 (.loop (.seq (.reg [⟨(some 96), .bin .lss (.t 95) (.c (.i .i64 256)), none⟩])
 (.seq (.cond (.t 96)
 .skip
 (.exit 6))
 (.seq (.blk 7 (.seq (.reg [⟨(some 97), .mv (.t 95), none⟩,
 ⟨(some 98), .ixA 256 1 false (.t 94) (.t 95), none⟩,
 ⟨(some 16), .mv (.t 97), none⟩,
 ⟨(some 17), .mv (.t 98), none⟩])
 (.seq (.reg [⟨(some 99), .mv (.t 17), none⟩])
 (.cond (.t 99)
 (.reg [⟨(some 100), .mv (.t 15), none⟩,
 ⟨(some 101), .mv (.t 16), none⟩,
 ⟨(some 102), .cvI .u8 (.t 101), none⟩,
 ⟨(some 103), .bsl 1 [(.t 102)], none⟩,
 ⟨(some 104), .app 1 5 (.t 100) (.t 103), none⟩,
 ⟨(some 15), .mv (.t 104), none⟩])
 .skip))))
 (.reg [⟨(some 105), .bin .add (.t 95) (.c (.i .i64 1)), none⟩,
 ⟨(some 95), .mv (.t 105), none⟩])))))))
 (.seq (.regD [⟨(some 106), .mv (.t 15), none⟩,
 ⟨(some 107), .cvBS (.t 106), none⟩,
 ⟨(some 108), .mv (.t 1), none⟩,
 ⟨(some 109), .callQ false f_slices_Clone_string_string [(.t 108)], none⟩,
 ⟨(some 110), .build [(.s []), .nsl] [(0, 1, (.t 107)), (1, 1, (.t 109))], none⟩,
 ⟨none, .st 2 (.t 8) (.t 110), none⟩,
 ⟨(some 9), .mv (.c (.i .i64 0)), none⟩] [(1, (1, 4))])
 .ret)))))))))) }
def c_path_Check : Fun := { cin := [.id], cout := [.id], ntmps := 25, keep := false, res := [(2, some (false, 1))], body :=
 (.seq (.reg [⟨(some 2), .alloc 50 [(.i .i64 0)], none⟩])
 (.seq (.blk 0 (.seq (.reg [⟨(some 5), .mv (.t 0), none⟩,
 ⟨(some 6), .bin .eql (.t 5) (.c (.s [])), none⟩,
 ⟨(some 7), .mv (.t 6), none⟩,
 ⟨(some 8), .mv (.t 0), (some (7, false))⟩,
 ⟨(some 9), .call f_strings_Contains [(.t 8), (.c (.s [0]))], (some (7, false))⟩,
 ⟨(some 10), .pick (.t 7) (.c (.b true)) (.t 9), none⟩,
 ⟨(some 4), .mv (.t 10), none⟩])
 (.cond (.t 4)
 (.seq (.reg [⟨none, .st 1 (.t 2) (.c (.i .i64 4)), none⟩])
 .ret)
 (.seq (.reg [⟨(some 12), .mv (.t 0), none⟩,
 ⟨(some 13), .len 0 (.t 12), none⟩,
 ⟨(some 14), .bin .gtr (.t 13) (.c (.i .i64 256)), none⟩,
 ⟨(some 11), .mv (.t 14), none⟩])
 (.cond (.t 11)
 (.seq (.reg [⟨none, .st 1 (.t 2) (.c (.i .i64 40)), none⟩])
 .ret)
 .skip)))))
 (.seq (.seq (.reg [⟨(some 15), .mv (.t 0), none⟩,
 ⟨(some 16), .call f_path_steps [(.t 15)], none⟩])
 (.blk 1 (.rf (.t 16) [17] (.reg [⟨(some 3), .mv (.t 17), none⟩])
 (.blk 2 (.seq (.reg [⟨(some 18), .mv (.t 3), none⟩,
 ⟨(some 19), .bin .neq (.t 18) (.c (.s [46, 46])), none⟩,
 ⟨(some 20), .mv (.t 19), none⟩,
 ⟨(some 21), .mv (.t 3), (some (20, true))⟩,
 ⟨(some 22), .call f_path_Name [(.t 21)], (some (20, true))⟩,
 ⟨(some 23), .un .not (.t 22), (some (20, true))⟩,
 ⟨(some 24), .pick (.t 20) (.t 23) (.c (.b false)), none⟩])
 (.cond (.t 24)
 (.seq (.reg [⟨none, .st 1 (.t 2) (.c (.i .i64 4)), none⟩])
 .ret)
 .skip))))))
 (.seq (.reg [⟨none, .st 1 (.t 2) (.c (.i .i64 0)), none⟩])
 .ret)))) }
def c_ftree_Tree_at : Fun := { cin := [.id, (.sl 1 .id)], cout := [(.agg [.id, .id, (.sl 1 .id), (.sl 4 (.agg [.id, .id, (.sl 1 .id), (.sl 4 (.agg [.id, .id, (.sl 1 .id), (.sl 4 .id)]))]))])], ntmps := 20, keep := false, res := [(4, some (true, 4))], body :=
 (.seq (.reg [⟨(some 4), .alloc 49 [(.i .u8 0), (.s []), .nsl, .nsl], none⟩])
 (.seq (.seq (.reg [⟨(some 7), .mv (.t 0), none⟩,
 ⟨(some 8), .eq .ptr false (.t 7) (.c .np), none⟩])
 (.cond (.t 8)
 (.seq (.reg [⟨(some 9), .build [(.i .u8 0), (.s []), .nsl, .nsl] [], none⟩,
 ⟨none, .st 4 (.t 4) (.t 9), none⟩])
 .ret)
 .skip))
 (.seq (.reg [⟨(some 11), .mv (.t 0), none⟩,
 ⟨(some 12), .nck (.t 11), none⟩,
 ⟨(some 13), .fa 0 (.t 12), none⟩,
 ⟨(some 14), .ld true 4 (.t 13), none⟩,
 ⟨(some 15), .mv (.t 1), none⟩,
 ⟨(some 16), .call f_ftree_find [(.t 14), (.t 15)], none⟩,
 ⟨(some 10), .mv (.t 16), none⟩,
 ⟨(some 17), .ext (.t 10) 0, none⟩,
 ⟨(some 18), .ext (.t 10) 1, none⟩,
 ⟨(some 5), .alloc 49 [(.i .u8 0), (.s []), .nsl, .nsl], none⟩,
 ⟨none, .st 4 (.t 5) (.t 17), none⟩,
 ⟨(some 6), .mv (.t 18), none⟩])
 (.seq (.reg [⟨(some 19), .ld true 4 (.t 5), none⟩,
 ⟨none, .st 4 (.t 4) (.t 19), none⟩])
 .ret)))) }
def c_slices_AppendSeq_string_string : Fun := { cin := [], cout := [], ntmps := 13, keep := false, res := [(4, none)], body :=
 (.seq (.reg [⟨(some 2), .box 26 1 (.t 0), none⟩,
 ⟨(some 4), .mv (.c .nsl), none⟩])
 (.seq (.seq (.reg [⟨(some 6), .mv (.t 1), none⟩])
 (.blk 0 (.rf (.t 6) [7] (.reg [⟨(some 5), .mv (.t 7), none⟩])
 (.blk 1 (.reg [⟨(some 8), .ld false 1 (.t 2), none⟩,
 ⟨(some 9), .mv (.t 5), none⟩,
 ⟨(some 10), .bsl 1 [(.t 9)], none⟩,
 ⟨(some 11), .app 1 9 (.t 8) (.t 10), none⟩,
 ⟨none, .st 1 (.t 2) (.t 11), none⟩])))))
 (.seq (.reg [⟨(some 12), .ld false 1 (.t 2), none⟩,
 ⟨(some 4), .mv (.t 12), none⟩])
 .ret))) }
def c_internal_stringslite_HasPrefix : Fun := { cin := [.id, .id], cout := [.id], ntmps := 18, keep := false, res := [(4, none)], body :=
 (.seq (.reg [⟨(some 4), .mv (.c (.b false)), none⟩])
 (.seq (.reg [⟨(some 5), .mv (.t 0), none⟩,
 ⟨(some 6), .len 0 (.t 5), none⟩,
 ⟨(some 7), .mv (.t 1), none⟩,
 ⟨(some 8), .len 0 (.t 7), none⟩,
 ⟨(some 9), .bin .geq (.t 6) (.t 8), none⟩,
 ⟨(some 10), .mv (.t 9), none⟩,
 ⟨(some 11), .mv (.t 0), (some (10, true))⟩,
 ⟨(some 12), .mv (.t 1), (some (10, true))⟩,
 ⟨(some 13), .len 0 (.t 12), (some (10, true))⟩,
 ⟨(some 14), .slS (.t 11) none (some (.t 13)), (some (10, true))⟩,
 ⟨(some 15), .mv (.t 1), (some (10, true))⟩,
 ⟨(some 16), .bin .eql (.t 14) (.t 15), (some (10, true))⟩,
 ⟨(some 17), .pick (.t 10) (.t 16) (.c (.b false)), none⟩,
 ⟨(some 4), .mv (.t 17), none⟩])
 .ret)) }
def c_internal_stringslite_Index : Fun := { cin := [.id, .id], cout := [.id], ntmps := 143, keep := false, res := [(4, none)], body :=
 (.seq (.reg [⟨(some 4), .mv (.c (.i .i64 0)), none⟩])
 (.seq (.reg [⟨(some 14), .mv (.t 1), none⟩,
 ⟨(some 15), .len 0 (.t 14), none⟩,
 ⟨(some 5), .mv (.t 15), none⟩])
 (.seq (.blk 0 (.seq (.reg [⟨(some 17), .mv (.t 5), none⟩,
 ⟨(some 18), .bin .eql (.t 17) (.c (.i .i64 0)), none⟩,
 ⟨(some 19), .mv (.t 18), none⟩,
 ⟨(some 20), .mv (.t 1), (some (19, false))⟩,
 ⟨(some 21), .mv (.t 0), (some (19, false))⟩,
 ⟨(some 22), .bin .eql (.t 20) (.t 21), (some (19, false))⟩,
 ⟨(some 23), .pick (.t 19) (.c (.b true)) (.t 22), none⟩,
 ⟨(some 16), .mv (.t 23), none⟩])
 (.cond (.t 16)
 (.seq (.reg [⟨(some 4), .mv (.c (.i .i64 0)), none⟩])
 .ret)
 (.seq (.reg [⟨(some 25), .mv (.t 5), none⟩,
 ⟨(some 26), .bin .eql (.t 25) (.c (.i .i64 1)), none⟩,
 ⟨(some 24), .mv (.t 26), none⟩])
 (.cond (.t 24)
 (.seq (.reg [⟨(some 27), .mv (.t 0), none⟩,
 ⟨(some 28), .mv (.t 1), none⟩,
 ⟨(some 29), .ixS (.t 28) (.c (.i .i64 0)), none⟩,
 ⟨(some 30), .call f_internal_stringslite_IndexByte [(.t 27), (.t 29)], none⟩,
 ⟨(some 4), .mv (.t 30), none⟩])
 .ret)
 (.seq (.reg [⟨(some 32), .mv (.t 5), none⟩,
 ⟨(some 33), .mv (.t 0), none⟩,
 ⟨(some 34), .len 0 (.t 33), none⟩,
 ⟨(some 35), .bin .geq (.t 32) (.t 34), none⟩,
 ⟨(some 31), .mv (.t 35), none⟩])
 (.cond (.t 31)
 (.seq (.reg [⟨(some 4), .mv (.c (.i .i64 (-1))), none⟩])
 .ret)
 (.seq (.reg [⟨(some 37), .mv (.t 5), none⟩,
 ⟨(some 38), .bad, none⟩,
 ⟨(some 39), .bin .leq (.t 37) (.t 38), none⟩,
 ⟨(some 40), .mv (.t 39), none⟩,
 ⟨(some 41), .mv (.t 0), (some (40, true))⟩,
 ⟨(some 42), .len 0 (.t 41), (some (40, true))⟩,
 ⟨(some 43), .bin .leq (.t 42) (.c (.i .i64 64)), (some (40, true))⟩,
 ⟨(some 44), .pick (.t 40) (.t 43) (.c (.b false)), none⟩,
 ⟨(some 36), .mv (.t 44), none⟩])
 (.cond (.t 36)
 (.seq (.reg [⟨(some 45), .mv (.t 0), none⟩,
 ⟨(some 46), .mv (.t 1), none⟩,
 ⟨(some 47), .bad, none⟩,
 ⟨(some 4), .mv (.t 47), none⟩])
 .ret)
 .skip)))))))))
 (.seq (.reg [⟨(some 48), .mv (.t 1), none⟩,
 ⟨(some 49), .ixS (.t 48) (.c (.i .i64 0)), none⟩,
 ⟨(some 6), .mv (.t 49), none⟩])
 (.seq (.reg [⟨(some 50), .mv (.t 1), none⟩,
 ⟨(some 51), .ixS (.t 50) (.c (.i .i64 1)), none⟩,
 ⟨(some 7), .mv (.t 51), none⟩])
 (.seq (.reg [⟨(some 8), .mv (.c (.i .i64 0)), none⟩])
 (.seq (.reg [⟨(some 52), .mv (.t 0), none⟩,
 ⟨(some 53), .len 0 (.t 52), none⟩,
 ⟨(some 54), .mv (.t 5), none⟩,
 ⟨(some 55), .bin .sub (.t 53) (.t 54), none⟩,
 ⟨(some 56), .bin .add (.t 55) (.c (.i .i64 1)), none⟩,
 ⟨(some 9), .mv (.t 56), none⟩])
 (.seq (.reg [⟨(some 10), .mv (.c (.i .i64 0)), none⟩])
 (.seq (.blk 1 (.loop (.seq (.seq (.reg [⟨(some 57), .mv (.t 8), none⟩,
 ⟨(some 58), .mv (.t 9), none⟩,
 ⟨(some 59), .bin .lss (.t 57) (.t 58), none⟩])
 (.cond (.t 59)
 .skip
 (.exit 1)))
 (.blk 2 (.seq (.seq (.reg [⟨(some 60), .mv (.t 0), none⟩,
 ⟨(some 61), .mv (.t 8), none⟩,
 ⟨(some 62), .ixS (.t 60) (.t 61), none⟩,
 ⟨(some 63), .mv (.t 6), none⟩,
 ⟨(some 64), .bin .neq (.t 62) (.t 63), none⟩])
 (.cond (.t 64)
 (.seq (.reg [⟨(some 65), .mv (.t 0), none⟩,
 ⟨(some 66), .mv (.t 8), none⟩,
 ⟨(some 67), .bin .add (.t 66) (.c (.i .i64 1)), none⟩,
 ⟨(some 68), .mv (.t 9), none⟩,
 ⟨(some 69), .slS (.t 65) (some (.t 67)) (some (.t 68)), none⟩,
 ⟨(some 70), .mv (.t 6), none⟩,
 ⟨(some 71), .call f_internal_stringslite_IndexByte [(.t 69), (.t 70)], none⟩,
 ⟨(some 11), .mv (.t 71), none⟩])
 (.seq (.seq (.reg [⟨(some 72), .mv (.t 11), none⟩,
 ⟨(some 73), .bin .lss (.t 72) (.c (.i .i64 0)), none⟩])
 (.cond (.t 73)
 (.seq (.reg [⟨(some 4), .mv (.c (.i .i64 (-1))), none⟩])
 .ret)
 .skip))
 (.reg [⟨(some 74), .mv (.t 8), none⟩,
 ⟨(some 75), .mv (.t 11), none⟩,
 ⟨(some 76), .bin .add (.t 75) (.c (.i .i64 1)), none⟩,
 ⟨(some 77), .bin .add (.t 74) (.t 76), none⟩,
 ⟨(some 8), .mv (.t 77), none⟩])))
 .skip))
 (.seq (.seq (.reg [⟨(some 78), .mv (.t 0), none⟩,
 ⟨(some 79), .mv (.t 8), none⟩,
 ⟨(some 80), .bin .add (.t 79) (.c (.i .i64 1)), none⟩,
 ⟨(some 81), .ixS (.t 78) (.t 80), none⟩,
 ⟨(some 82), .mv (.t 7), none⟩,
 ⟨(some 83), .bin .eql (.t 81) (.t 82), none⟩,
 ⟨(some 84), .mv (.t 83), none⟩,
 ⟨(some 85), .mv (.t 0), (some (84, true))⟩,
 ⟨(some 86), .mv (.t 8), (some (84, true))⟩,
 ⟨(some 87), .mv (.t 8), (some (84, true))⟩,
 ⟨(some 88), .mv (.t 5), (some (84, true))⟩,
 ⟨(some 89), .bin .add (.t 87) (.t 88), (some (84, true))⟩,
 ⟨(some 90), .slS (.t 85) (some (.t 86)) (some (.t 89)), (some (84, true))⟩,
 ⟨(some 91), .mv (.t 1), (some (84, true))⟩,
 ⟨(some 92), .bin .eql (.t 90) (.t 91), (some (84, true))⟩,
 ⟨(some 93), .pick (.t 84) (.t 92) (.c (.b false)), none⟩])
 (.cond (.t 93)
 (.seq (.reg [⟨(some 94), .mv (.t 8), none⟩,
 ⟨(some 4), .mv (.t 94), none⟩])
 .ret)
 .skip))
 (.seq (.reg [⟨(some 95), .mv (.t 8), none⟩,
 ⟨(some 96), .bin .add (.t 95) (.c (.i .i64 1)), none⟩,
 ⟨(some 8), .mv (.t 96), none⟩])
 (.seq (.reg [⟨(some 97), .mv (.t 10), none⟩,
 ⟨(some 98), .bin .add (.t 97) (.c (.i .i64 1)), none⟩,
 ⟨(some 10), .mv (.t 98), none⟩])
 (.seq (.reg [⟨(some 99), .mv (.t 5), none⟩,
 ⟨(some 100), .bad, none⟩,
 ⟨(some 101), .bin .leq (.t 99) (.t 100), none⟩,
 ⟨(some 102), .mv (.t 101), none⟩,
 ⟨(some 103), .mv (.t 10), (some (102, true))⟩,
 ⟨(some 104), .mv (.t 8), (some (102, true))⟩,
 ⟨(some 105), .call f_internal_bytealg_Cutover [(.t 104)], (some (102, true))⟩,
 ⟨(some 106), .bin .gtr (.t 103) (.t 105), (some (102, true))⟩,
 ⟨(some 107), .pick (.t 102) (.t 106) (.c (.b false)), none⟩])
 (.cond (.t 107)
 (.seq (.reg [⟨(some 108), .mv (.t 0), none⟩,
 ⟨(some 109), .mv (.t 8), none⟩,
 ⟨(some 110), .slS (.t 108) (some (.t 109)) none, none⟩,
 ⟨(some 111), .mv (.t 1), none⟩,
 ⟨(some 112), .bad, none⟩,
 ⟨(some 12), .mv (.t 112), none⟩])
 (.seq (.seq (.reg [⟨(some 113), .mv (.t 12), none⟩,
 ⟨(some 114), .bin .geq (.t 113) (.c (.i .i64 0)), none⟩])
 (.cond (.t 114)
 (.seq (.reg [⟨(some 115), .mv (.t 12), none⟩,
 ⟨(some 116), .mv (.t 8), none⟩,
 ⟨(some 117), .bin .add (.t 115) (.t 116), none⟩,
 ⟨(some 4), .mv (.t 117), none⟩])
 .ret)
 .skip))
 (.seq (.reg [⟨(some 4), .mv (.c (.i .i64 (-1))), none⟩])
 .ret)))
 (.seq (.reg [⟨(some 118), .mv (.t 5), none⟩,
 ⟨(some 119), .bad, none⟩,
 ⟨(some 120), .bin .gtr (.t 118) (.t 119), none⟩,
 ⟨(some 121), .mv (.t 120), none⟩,
 ⟨(some 122), .mv (.t 10), (some (121, true))⟩,
 ⟨(some 123), .mv (.t 8), (some (121, true))⟩,
 ⟨(some 124), .bin .shr (.t 123) (.c (.i .u64 4)), (some (121, true))⟩,
 ⟨(some 125), .bin .add (.c (.i .i64 4)) (.t 124), (some (121, true))⟩,
 ⟨(some 126), .bin .geq (.t 122) (.t 125), (some (121, true))⟩,
 ⟨(some 127), .pick (.t 121) (.t 126) (.c (.b false)), none⟩,
 ⟨(some 128), .mv (.t 127), none⟩,
 ⟨(some 129), .mv (.t 8), (some (128, true))⟩,
 ⟨(some 130), .mv (.t 9), (some (128, true))⟩,
 ⟨(some 131), .bin .lss (.t 129) (.t 130), (some (128, true))⟩,
 ⟨(some 132), .pick (.t 128) (.t 131) (.c (.b false)), none⟩])
 (.cond (.t 132)
 (.seq (.reg [⟨(some 133), .mv (.t 0), none⟩,
 ⟨(some 134), .mv (.t 8), none⟩,
 ⟨(some 135), .slS (.t 133) (some (.t 134)) none, none⟩,
 ⟨(some 136), .mv (.t 1), none⟩,
 ⟨(some 137), .call f_internal_bytealg_IndexRabinKarp_string [(.t 135), (.t 136)], none⟩,
 ⟨(some 13), .mv (.t 137), none⟩])
 (.seq (.seq (.reg [⟨(some 138), .mv (.t 13), none⟩,
 ⟨(some 139), .bin .lss (.t 138) (.c (.i .i64 0)), none⟩])
 (.cond (.t 139)
 (.seq (.reg [⟨(some 4), .mv (.c (.i .i64 (-1))), none⟩])
 .ret)
 .skip))
 (.seq (.reg [⟨(some 140), .mv (.t 8), none⟩,
 ⟨(some 141), .mv (.t 13), none⟩,
 ⟨(some 142), .bin .add (.t 140) (.t 141), none⟩,
 ⟨(some 4), .mv (.t 142), none⟩])
 .ret)))
 .skip))))))))))))
 (.seq (.reg [⟨(some 4), .mv (.c (.i .i64 (-1))), none⟩])
 .ret)))))))))) }
def c_path_Name : Fun := { cin := [.id], cout := [.id], ntmps := 23, keep := false, res := [(2, none)], body :=
 (.seq (.reg [⟨(some 2), .mv (.c (.b false)), none⟩])
 (.seq (.reg [⟨(some 3), .mv (.t 0), none⟩,
 ⟨(some 4), .bin .neq (.t 3) (.c (.s [])), none⟩,
 ⟨(some 5), .mv (.t 4), none⟩,
 ⟨(some 6), .mv (.t 0), (some (5, true))⟩,
 ⟨(some 7), .len 0 (.t 6), (some (5, true))⟩,
 ⟨(some 8), .bin .leq (.t 7) (.c (.i .i64 64)), (some (5, true))⟩,
 ⟨(some 9), .pick (.t 5) (.t 8) (.c (.b false)), none⟩,
 ⟨(some 10), .mv (.t 9), none⟩,
 ⟨(some 11), .mv (.t 0), (some (10, true))⟩,
 ⟨(some 12), .bin .neq (.t 11) (.c (.s [46])), (some (10, true))⟩,
 ⟨(some 13), .pick (.t 10) (.t 12) (.c (.b false)), none⟩,
 ⟨(some 14), .mv (.t 13), none⟩,
 ⟨(some 15), .mv (.t 0), (some (14, true))⟩,
 ⟨(some 16), .bin .neq (.t 15) (.c (.s [46, 46])), (some (14, true))⟩,
 ⟨(some 17), .pick (.t 14) (.t 16) (.c (.b false)), none⟩,
 ⟨(some 18), .mv (.t 17), none⟩,
 ⟨(some 19), .mv (.t 0), (some (18, true))⟩,
 ⟨(some 20), .call f_strings_ContainsAny [(.t 19), (.c (.s [47, 0, 10]))], (some (18, true))⟩,
 ⟨(some 21), .un .not (.t 20), (some (18, true))⟩,
 ⟨(some 22), .pick (.t 18) (.t 21) (.c (.b false)), none⟩,
 ⟨(some 2), .mv (.t 22), none⟩])
 .ret)) }
def c_cmp_Less_string : Fun := { cin := [.id, .id], cout := [.id], ntmps := 17, keep := false, res := [(4, none)], body :=
 (.seq (.reg [⟨(some 4), .mv (.c (.b false)), none⟩])
 (.seq (.reg [⟨(some 5), .mv (.t 0), none⟩,
 ⟨(some 6), .call f_cmp_isNaN_string [(.t 5)], none⟩,
 ⟨(some 7), .mv (.t 6), none⟩,
 ⟨(some 8), .mv (.t 1), (some (7, true))⟩,
 ⟨(some 9), .call f_cmp_isNaN_string [(.t 8)], (some (7, true))⟩,
 ⟨(some 10), .un .not (.t 9), (some (7, true))⟩,
 ⟨(some 11), .pick (.t 7) (.t 10) (.c (.b false)), none⟩,
 ⟨(some 12), .mv (.t 11), none⟩,
 ⟨(some 13), .mv (.t 0), (some (12, false))⟩,
 ⟨(some 14), .mv (.t 1), (some (12, false))⟩,
 ⟨(some 15), .bin .lss (.t 13) (.t 14), (some (12, false))⟩,
 ⟨(some 16), .pick (.t 12) (.c (.b true)) (.t 15), none⟩,
 ⟨(some 4), .mv (.t 16), none⟩])
 .ret)) }
def c_slices_isNaN_string : Fun := { cin := [.id], cout := [.id], ntmps := 6, keep := false, res := [(2, none)], body :=
 (.seq (.reg [⟨(some 2), .mv (.c (.b false)), none⟩])
 (.seq (.reg [⟨(some 3), .mv (.t 0), none⟩,
 ⟨(some 4), .mv (.t 0), none⟩,
 ⟨(some 5), .bin .neq (.t 3) (.t 4), none⟩,
 ⟨(some 2), .mv (.t 5), none⟩])
 .ret)) }
def c_slices_rotateRight_string : Fun := { cin := [(.sl 1 .id), .id], cout := [], ntmps := 10, keep := false, res := [], body :=
 (.reg [⟨(some 4), .mv (.t 0), none⟩,
 ⟨(some 5), .mv (.t 0), none⟩,
 ⟨(some 6), .len 1 (.t 5), none⟩,
 ⟨(some 7), .mv (.t 1), none⟩,
 ⟨(some 8), .bin .sub (.t 6) (.t 7), none⟩,
 ⟨(some 9), .call f_slices_rotateLeft_string [(.t 4), (.t 8)], none⟩]) }
def c_slices_rotateRight_api_Node : Fun := { cin := [(.sl 4 (.agg [.id, .id, (.sl 1 .id), (.sl 4 (.agg [.id, .id, (.sl 1 .id), (.sl 4 (.agg [.id, .id, .id, .id]))]))])), .id], cout := [], ntmps := 10, keep := false, res := [], body :=
 (.reg [⟨(some 4), .mv (.t 0), none⟩,
 ⟨(some 5), .mv (.t 0), none⟩,
 ⟨(some 6), .len 1 (.t 5), none⟩,
 ⟨(some 7), .mv (.t 1), none⟩,
 ⟨(some 8), .bin .sub (.t 6) (.t 7), none⟩,
 ⟨(some 9), .call f_slices_rotateLeft_api_Node [(.t 4), (.t 8)], none⟩]) }
def c_strings_IndexByte : Fun := { cin := [.id, .id], cout := [.id], ntmps := 8, keep := false, res := [(4, none)], body :=
 (.seq (.reg [⟨(some 4), .mv (.c (.i .i64 0)), none⟩])
 (.seq (.reg [⟨(some 5), .mv (.t 0), none⟩,
 ⟨(some 6), .mv (.t 1), none⟩,
 ⟨(some 7), .call f_internal_stringslite_IndexByte [(.t 5), (.t 6)], none⟩,
 ⟨(some 4), .mv (.t 7), none⟩])
 .ret)) }
def c_ftree_own : Fun := { cin := [(.agg [.id, .id, (.sl 1 .id), (.sl 4 (.agg [.id, .id, (.sl 1 .id), (.sl 4 (.agg [.id, .id, (.sl 1 .id), (.sl 4 .id)]))]))])], cout := [(.agg [.id, .id, (.sl 1 .id), (.sl 4 (.agg [.id, .id, (.sl 1 .id), (.sl 4 (.agg [.id, .id, (.sl 1 .id), (.sl 4 .id)]))]))])], ntmps := 26, keep := false, res := [(2, some (true, 4))], body :=
 (.seq (.reg [⟨(some 1), .box 49 4 (.t 0), none⟩,
 ⟨(some 2), .alloc 49 [(.i .u8 0), (.s []), .nsl, .nsl], none⟩])
 (.seq (.reg [⟨(some 6), .fa 2 (.t 1), none⟩,
 ⟨(some 7), .ld false 1 (.t 6), none⟩,
 ⟨(some 8), .call f_slices_Clone_string_string [(.t 7)], none⟩,
 ⟨(some 9), .fa 2 (.t 1), none⟩,
 ⟨none, .st 1 (.t 9) (.t 8), none⟩])
 (.seq (.reg [⟨(some 3), .mv (.c .nsl), none⟩])
 (.seq (.seq (.reg [⟨(some 10), .fa 3 (.t 1), none⟩,
 ⟨(some 11), .ld false 1 (.t 10), none⟩,
 ⟨(some 12), .len 1 (.t 11), none⟩,
 ⟨(some 13), .mv (.c (.i .i64 0)), none⟩])
 (.blk 0 (.loop (.seq (.reg [⟨(some 14), .bin .lss (.t 13) (.t 12), none⟩])
 (.seq (.cond (.t 14)
 .skip
 (.exit 0))
 (.seq (.blk 1 (.seq (.reg [⟨(some 15), .ia 4 (.t 11) (.t 13), none⟩,
 ⟨(some 16), .ld true 4 (.t 15), none⟩,
 ⟨(some 5), .alloc 49 [(.i .u8 0), (.s []), .nsl, .nsl], none⟩,
 ⟨none, .st 4 (.t 5) (.t 16), none⟩])
 (.reg [⟨(some 17), .mv (.t 3), none⟩,
 ⟨(some 18), .ld true 4 (.t 5), none⟩,
 ⟨(some 19), .call f_ftree_own [(.t 18)], none⟩,
 ⟨(some 20), .bsl 4 [(.t 19)], none⟩,
 ⟨(some 21), .app 4 49 (.t 17) (.t 20), none⟩,
 ⟨(some 3), .mv (.t 21), none⟩])))
 (.reg [⟨(some 22), .bin .add (.t 13) (.c (.i .i64 1)), none⟩,
 ⟨(some 13), .mv (.t 22), none⟩])))))))
 (.seq (.reg [⟨(some 23), .mv (.t 3), none⟩,
 ⟨(some 24), .fa 3 (.t 1), none⟩,
 ⟨none, .st 1 (.t 24) (.t 23), none⟩])
 (.seq (.reg [⟨(some 25), .ld true 4 (.t 1), none⟩,
 ⟨none, .st 4 (.t 2) (.t 25), none⟩])
 .ret)))))) }
def c_dirs_utilities_1 : Fun := { cin := [(.agg [.id, .id, (.sl 1 .id)])], cout := [.id], ntmps := 3, keep := false, res := [(2, none)], body :=
 (.seq (.reg [⟨(some 1), .box 160 3 (.t 0), none⟩,
 ⟨(some 2), .mv (.c (.b false)), none⟩])
 (.seq (.reg [⟨(some 2), .mv (.c (.b false)), none⟩])
 .ret)) }
def c_dirs_call_mkdir : Fun := { cin := [(.agg [.id, .id, (.sl 1 .id)]), .id], cout := [.id], ntmps := 55, keep := false, res := [(4, none)], body :=
 (.seq (.reg [⟨(some 2), .box 160 3 (.t 0), none⟩,
 ⟨(some 4), .mv (.c (.i .i64 0)), none⟩])
 (.seq (.seq (.reg [⟨(some 12), .fa 1 (.t 2), none⟩,
 ⟨(some 13), .ld true 2 (.t 12), none⟩,
 ⟨(some 14), .call f_opts_Opts_Has [(.t 13), (.c (.i .u8 112))], none⟩,
 ⟨(some 15), .un .not (.t 14), none⟩])
 (.cond (.t 15)
 (.seq (.reg [⟨(some 16), .ld true 3 (.t 2), none⟩,
 ⟨(some 17), .mv (.t 1), none⟩,
 ⟨(some 18), .call f_dirs_call_spot [(.t 16), (.t 17), (.c (.fn f_prim_MakeDir []))], none⟩,
 ⟨(some 4), .mv (.t 18), none⟩])
 .ret)
 .skip))
 (.seq (.reg [⟨(some 5), .alloc 207 [.np, .nsl], none⟩])
 (.seq (.seq (.reg [⟨(some 19), .mv (.t 1), none⟩,
 ⟨(some 20), .call f_path_Steps [(.t 19)], none⟩,
 ⟨(some 21), .len 1 (.t 20), none⟩,
 ⟨(some 22), .mv (.c (.i .i64 0)), none⟩])
 (.blk 0 (.loop (.seq (.reg [⟨(some 23), .bin .lss (.t 22) (.t 21), none⟩])
 (.seq (.cond (.t 23)
 .skip
 (.exit 0))
 (.seq (.blk 1 (.seq (.reg [⟨(some 24), .ia 1 (.t 20) (.t 22), none⟩,
 ⟨(some 25), .ld false 1 (.t 24), none⟩,
 ⟨(some 7), .mv (.t 25), none⟩])
 (.seq (.reg [⟨(some 26), .mv (.t 7), none⟩,
 ⟨(some 27), .bin .add (.c (.s [47])) (.t 26), none⟩,
 ⟨(some 28), .call f_strings_Builder_WriteString [(.t 5), (.t 27)], none⟩])
 (.seq (.regD [⟨(some 30), .fa 0 (.t 2), none⟩,
 ⟨(some 31), .ld false 1 (.t 30), none⟩,
 ⟨(some 32), .call f_strings_Builder_String [(.t 5)], none⟩,
 ⟨(some 33), .call f_walk_Find [(.t 31), (.t 32)], none⟩,
 ⟨(some 29), .mv (.t 33), none⟩,
 ⟨(some 34), .ext (.t 29) 0, none⟩,
 ⟨(some 35), .ext (.t 29) 1, none⟩,
 ⟨(some 36), .ext (.t 29) 2, none⟩,
 ⟨(some 8), .mv (.t 34), none⟩,
 ⟨(some 9), .mv (.t 35), none⟩,
 ⟨(some 10), .mv (.t 36), none⟩] [(1, (1, 3))])
 (.seq (.blk 2 (.seq (.reg [⟨(some 38), .mv (.t 10), none⟩,
 ⟨(some 39), .bin .neq (.t 38) (.c (.i .i64 0)), none⟩,
 ⟨(some 37), .mv (.t 39), none⟩])
 (.cond (.t 37)
 (.seq (.reg [⟨(some 40), .mv (.t 10), none⟩,
 ⟨(some 4), .mv (.t 40), none⟩])
 .ret)
 (.seq (.reg [⟨(some 42), .mv (.t 9), none⟩,
 ⟨(some 43), .bin .eql (.t 42) (.c (.i .u8 2)), none⟩,
 ⟨(some 41), .mv (.t 43), none⟩])
 (.cond (.t 41)
 (.exit 1)
 (.seq (.reg [⟨(some 45), .mv (.t 9), none⟩,
 ⟨(some 46), .bin .neq (.t 45) (.c (.i .u8 0)), none⟩,
 ⟨(some 44), .mv (.t 46), none⟩])
 (.cond (.t 44)
 (.seq (.reg [⟨(some 4), .mv (.c (.i .i64 55)), none⟩])
 .ret)
 .skip)))))))
 (.seq (.reg [⟨(some 47), .fa 0 (.t 2), none⟩,
 ⟨(some 48), .ld false 1 (.t 47), none⟩,
 ⟨(some 49), .mv (.t 8), none⟩,
 ⟨(some 50), .call f_prim_MakeDir [(.t 48), (.t 49)], none⟩,
 ⟨(some 11), .mv (.t 50), none⟩])
 (.seq (.reg [⟨(some 51), .mv (.t 11), none⟩,
 ⟨(some 52), .bin .neq (.t 51) (.c (.i .i64 0)), none⟩])
 (.cond (.t 52)
 (.seq (.reg [⟨(some 53), .mv (.t 11), none⟩,
 ⟨(some 4), .mv (.t 53), none⟩])
 .ret)
 .skip))))))))
 (.reg [⟨(some 54), .bin .add (.t 22) (.c (.i .i64 1)), none⟩,
 ⟨(some 22), .mv (.t 54), none⟩])))))))
 (.seq (.reg [⟨(some 4), .mv (.c (.i .i64 0)), none⟩])
 .ret))))) }
def c_dirs_call_rmdir : Fun := { cin := [(.agg [.id, .id, (.sl 1 .id)]), .id], cout := [.id], ntmps := 8, keep := false, res := [(4, none)], body :=
 (.seq (.reg [⟨(some 2), .box 160 3 (.t 0), none⟩,
 ⟨(some 4), .mv (.c (.i .i64 0)), none⟩])
 (.seq (.reg [⟨(some 5), .ld true 3 (.t 2), none⟩,
 ⟨(some 6), .mv (.t 1), none⟩,
 ⟨(some 7), .call f_dirs_call_spot [(.t 5), (.t 6), (.c (.fn f_prim_RemoveDir []))], none⟩,
 ⟨(some 4), .mv (.t 7), none⟩])
 .ret)) }
def c_dirs_call_touch : Fun := { cin := [(.agg [.id, .id, (.sl 1 .id)]), .id], cout := [.id], ntmps := 42, keep := false, res := [(4, none)], body :=
 (.seq (.reg [⟨(some 2), .box 160 3 (.t 0), none⟩,
 ⟨(some 4), .mv (.c (.i .i64 0)), none⟩])
 (.seq (.reg [⟨(some 12), .fa 0 (.t 2), none⟩,
 ⟨(some 13), .ld false 1 (.t 12), none⟩,
 ⟨(some 14), .mv (.t 1), none⟩,
 ⟨(some 15), .call f_walk_Find [(.t 13), (.t 14)], none⟩,
 ⟨(some 11), .mv (.t 15), none⟩,
 ⟨(some 16), .ext (.t 11) 0, none⟩,
 ⟨(some 17), .ext (.t 11) 1, none⟩,
 ⟨(some 18), .ext (.t 11) 2, none⟩,
 ⟨(some 5), .mv (.t 16), none⟩,
 ⟨(some 6), .mv (.t 17), none⟩,
 ⟨(some 7), .mv (.t 18), none⟩])
 (.seq (.seq (.reg [⟨(some 19), .mv (.t 7), none⟩,
 ⟨(some 20), .bin .neq (.t 19) (.c (.i .i64 0)), none⟩])
 (.cond (.t 20)
 (.seq (.reg [⟨(some 21), .mv (.t 7), none⟩,
 ⟨(some 4), .mv (.t 21), none⟩])
 .ret)
 .skip))
 (.seq (.seq (.reg [⟨(some 22), .mv (.t 6), none⟩,
 ⟨(some 23), .bin .eql (.t 22) (.c (.i .u8 0)), none⟩])
 (.cond (.t 23)
 (.seq (.reg [⟨(some 25), .fa 0 (.t 2), none⟩,
 ⟨(some 26), .ld false 1 (.t 25), none⟩,
 ⟨(some 27), .mv (.t 1), none⟩,
 ⟨(some 28), .call f_walk_Spot [(.t 26), (.t 27)], none⟩,
 ⟨(some 24), .mv (.t 28), none⟩,
 ⟨(some 29), .ext (.t 24) 0, none⟩,
 ⟨(some 30), .ext (.t 24) 1, none⟩,
 ⟨(some 31), .ext (.t 24) 2, none⟩,
 ⟨(some 8), .mv (.t 29), none⟩,
 ⟨(some 9), .mv (.t 30), none⟩,
 ⟨(some 10), .mv (.t 31), none⟩])
 (.seq (.reg [⟨(some 32), .mv (.t 9), none⟩,
 ⟨(some 33), .bin .eql (.t 32) (.c (.i .u8 3)), none⟩,
 ⟨(some 34), .mv (.t 33), none⟩,
 ⟨(some 35), .mv (.t 1), (some (34, false))⟩,
 ⟨(some 36), .call f_path_Dir [(.t 35)], (some (34, false))⟩,
 ⟨(some 37), .pick (.t 34) (.c (.b true)) (.t 36), none⟩])
 (.cond (.t 37)
 (.seq (.reg [⟨(some 4), .mv (.c (.i .i64 5)), none⟩])
 .ret)
 .skip)))
 .skip))
 (.seq (.reg [⟨(some 38), .fa 0 (.t 2), none⟩,
 ⟨(some 39), .ld false 1 (.t 38), none⟩,
 ⟨(some 40), .mv (.t 5), none⟩,
 ⟨(some 41), .call f_prim_Touch [(.t 39), (.t 40)], none⟩,
 ⟨(some 4), .mv (.t 41), none⟩])
 .ret))))) }
def c_dirs_utilities_2 : Fun := { cin := [(.agg [.id, .id, (.sl 1 .id)])], cout := [.id], ntmps := 6, keep := false, res := [(2, none)], body :=
 (.seq (.reg [⟨(some 1), .box 160 3 (.t 0), none⟩,
 ⟨(some 2), .mv (.c (.b false)), none⟩])
 (.seq (.reg [⟨(some 3), .fa 1 (.t 1), none⟩,
 ⟨(some 4), .ld true 2 (.t 3), none⟩,
 ⟨(some 5), .call f_opts_Opts_Has [(.t 4), (.c (.i .u8 102))], none⟩,
 ⟨(some 2), .mv (.t 5), none⟩])
 .ret)) }
def c_opts_Opts_Has : Fun := { cin := [(.agg [.id, (.sl 1 .id)]), .id], cout := [.id], ntmps := 10, keep := false, res := [(4, none)], body :=
 (.seq (.reg [⟨(some 2), .box 156 2 (.t 0), none⟩,
 ⟨(some 4), .mv (.c (.b false)), none⟩])
 (.seq (.reg [⟨(some 5), .fa 0 (.t 2), none⟩,
 ⟨(some 6), .ld false 1 (.t 5), none⟩,
 ⟨(some 7), .mv (.t 1), none⟩,
 ⟨(some 8), .call f_strings_IndexByte [(.t 6), (.t 7)], none⟩,
 ⟨(some 9), .bin .geq (.t 8) (.c (.i .i64 0)), none⟩,
 ⟨(some 4), .mv (.t 9), none⟩])
 .ret)) }
def c_dirs_call_rm : Fun := { cin := [(.agg [.id, .id, (.sl 1 .id)]), .id], cout := [.id], ntmps := 50, keep := false, res := [(4, none)], body :=
 (.seq (.reg [⟨(some 2), .box 160 3 (.t 0), none⟩,
 ⟨(some 4), .mv (.c (.i .i64 0)), none⟩])
 (.seq (.reg [⟨(some 9), .fa 0 (.t 2), none⟩,
 ⟨(some 10), .ld false 1 (.t 9), none⟩,
 ⟨(some 11), .mv (.t 1), none⟩,
 ⟨(some 12), .call f_walk_Spot [(.t 10), (.t 11)], none⟩,
 ⟨(some 8), .mv (.t 12), none⟩,
 ⟨(some 13), .ext (.t 8) 0, none⟩,
 ⟨(some 14), .ext (.t 8) 1, none⟩,
 ⟨(some 15), .ext (.t 8) 2, none⟩,
 ⟨(some 5), .mv (.t 13), none⟩,
 ⟨(some 6), .mv (.t 14), none⟩,
 ⟨(some 7), .mv (.t 15), none⟩])
 (.seq (.seq (.reg [⟨(some 16), .mv (.t 7), none⟩,
 ⟨(some 17), .bin .eql (.t 16) (.c (.i .i64 0)), none⟩,
 ⟨(some 18), .mv (.t 17), none⟩,
 ⟨(some 19), .mv (.t 6), (some (18, true))⟩,
 ⟨(some 20), .bin .eql (.t 19) (.c (.i .u8 0)), (some (18, true))⟩,
 ⟨(some 21), .pick (.t 18) (.t 20) (.c (.b false)), none⟩])
 (.cond (.t 21)
 (.reg [⟨(some 7), .mv (.c (.i .i64 5)), none⟩])
 .skip))
 (.seq (.blk 0 (.seq (.reg [⟨(some 23), .mv (.t 7), none⟩,
 ⟨(some 24), .bin .eql (.t 23) (.c (.i .i64 5)), none⟩,
 ⟨(some 25), .mv (.t 24), none⟩,
 ⟨(some 26), .fa 1 (.t 2), (some (25, true))⟩,
 ⟨(some 27), .ld true 2 (.t 26), (some (25, true))⟩,
 ⟨(some 28), .call f_opts_Opts_Has [(.t 27), (.c (.i .u8 102))], (some (25, true))⟩,
 ⟨(some 29), .pick (.t 25) (.t 28) (.c (.b false)), none⟩,
 ⟨(some 22), .mv (.t 29), none⟩])
 (.cond (.t 22)
 (.seq (.reg [⟨(some 4), .mv (.c (.i .i64 0)), none⟩])
 .ret)
 (.seq (.reg [⟨(some 31), .mv (.t 7), none⟩,
 ⟨(some 32), .bin .neq (.t 31) (.c (.i .i64 0)), none⟩,
 ⟨(some 30), .mv (.t 32), none⟩])
 (.cond (.t 30)
 (.seq (.reg [⟨(some 33), .mv (.t 7), none⟩,
 ⟨(some 4), .mv (.t 33), none⟩])
 .ret)
 (.seq (.reg [⟨(some 35), .mv (.t 6), none⟩,
 ⟨(some 36), .bin .neq (.t 35) (.c (.i .u8 2)), none⟩,
 ⟨(some 34), .mv (.t 36), none⟩])
 (.cond (.t 34)
 (.seq (.reg [⟨(some 37), .fa 0 (.t 2), none⟩,
 ⟨(some 38), .ld false 1 (.t 37), none⟩,
 ⟨(some 39), .mv (.t 5), none⟩,
 ⟨(some 40), .call f_prim_Unlink [(.t 38), (.t 39)], none⟩,
 ⟨(some 4), .mv (.t 40), none⟩])
 .ret)
 (.seq (.reg [⟨(some 42), .fa 1 (.t 2), none⟩,
 ⟨(some 43), .ld true 2 (.t 42), none⟩,
 ⟨(some 44), .call f_opts_Opts_Has [(.t 43), (.c (.i .u8 114))], none⟩,
 ⟨(some 45), .un .not (.t 44), none⟩,
 ⟨(some 41), .mv (.t 45), none⟩])
 (.cond (.t 41)
 (.seq (.reg [⟨(some 4), .mv (.c (.i .i64 55)), none⟩])
 .ret)
 .skip)))))))))
 (.seq (.reg [⟨(some 46), .fa 0 (.t 2), none⟩,
 ⟨(some 47), .ld false 1 (.t 46), none⟩,
 ⟨(some 48), .mv (.t 5), none⟩,
 ⟨(some 49), .call f_prim_RemoveAll [(.t 47), (.t 48)], none⟩,
 ⟨(some 4), .mv (.t 49), none⟩])
 .ret))))) }
def c_opts_letter : Fun := { cin := [.id], cout := [.id], ntmps := 17, keep := false, res := [(2, none)], body :=
 (.seq (.reg [⟨(some 2), .mv (.c (.b false)), none⟩])
 (.seq (.reg [⟨(some 3), .mv (.t 0), none⟩,
 ⟨(some 4), .bin .geq (.t 3) (.c (.i .u8 97)), none⟩,
 ⟨(some 5), .mv (.t 4), none⟩,
 ⟨(some 6), .mv (.t 0), (some (5, true))⟩,
 ⟨(some 7), .bin .leq (.t 6) (.c (.i .u8 122)), (some (5, true))⟩,
 ⟨(some 8), .pick (.t 5) (.t 7) (.c (.b false)), none⟩,
 ⟨(some 9), .mv (.t 8), none⟩,
 ⟨(some 10), .mv (.t 0), (some (9, false))⟩,
 ⟨(some 11), .bin .geq (.t 10) (.c (.i .u8 65)), (some (9, false))⟩,
 ⟨(some 12), .mv (.t 11), (some (9, false))⟩,
 ⟨(some 13), .mv (.t 0), (some (12, true))⟩,
 ⟨(some 14), .bin .leq (.t 13) (.c (.i .u8 90)), (some (12, true))⟩,
 ⟨(some 15), .pick (.t 12) (.t 14) (.c (.b false)), (some (9, false))⟩,
 ⟨(some 16), .pick (.t 9) (.c (.b true)) (.t 15), none⟩,
 ⟨(some 2), .mv (.t 16), none⟩])
 .ret)) }
def c_slices_Clone_string_string : Fun := { cin := [(.sl 1 .id)], cout := [], ntmps := 8, keep := true, res := [(2, none)], body :=
 (.seq (.reg [⟨(some 2), .mv (.c .nsl), none⟩])
 (.seq (.seq (.reg [⟨(some 3), .mv (.t 0), none⟩,
 ⟨(some 4), .eq .sl false (.t 3) (.c .nsl), none⟩])
 (.cond (.t 4)
 (.seq (.reg [⟨(some 2), .mv (.c .nsl), none⟩])
 .ret)
 .skip))
 (.seq (.reg [⟨(some 5), .bsl 1 [], none⟩,
 ⟨(some 6), .mv (.t 0), none⟩,
 ⟨(some 7), .app 1 9 (.t 5) (.t 6), none⟩,
 ⟨(some 2), .mv (.t 7), none⟩])
 .ret))) }
def c_path_steps : Fun := { cin := [.id], cout := [.id], ntmps := 4, keep := false, res := [(2, none)], body :=
 (.seq (.reg [⟨(some 1), .box 9 1 (.t 0), none⟩,
 ⟨(some 2), .mv (.c .nf), none⟩])
 (.seq (.reg [⟨(some 3), .mkf f_path_steps_1 [(.t 1)], none⟩,
 ⟨(some 2), .mv (.t 3), none⟩])
 .ret)) }
def c_ftree_find : Fun := { cin := [(.agg [.id, .id, (.sl 1 .id), (.sl 4 (.agg [.id, .id, (.sl 1 .id), (.sl 4 (.agg [.id, .id, (.sl 1 .id), (.sl 4 .id)]))]))]), (.sl 1 .id)], cout := [(.agg [.id, .id, (.sl 1 .id), (.sl 4 (.agg [.id, .id, (.sl 1 .id), (.sl 4 (.agg [.id, .id, (.sl 1 .id), (.sl 4 .id)]))]))]), .id], ntmps := 38, keep := false, res := [(4, some (true, 4)), (5, none)], body :=
 (.seq (.reg [⟨(some 2), .box 49 4 (.t 0), none⟩,
 ⟨(some 4), .alloc 49 [(.i .u8 0), (.s []), .nsl, .nsl], none⟩,
 ⟨(some 5), .mv (.c (.b false)), none⟩])
 (.seq (.seq (.reg [⟨(some 10), .mv (.t 1), none⟩,
 ⟨(some 11), .len 1 (.t 10), none⟩,
 ⟨(some 12), .mv (.c (.i .i64 0)), none⟩])
 (.blk 0 (.loop (.seq (.reg [⟨(some 13), .bin .lss (.t 12) (.t 11), none⟩])
 (.seq (.cond (.t 13)
 .skip
 (.exit 0))
 (.seq (.blk 1 (.seq (.reg [⟨(some 14), .ia 1 (.t 10) (.t 12), none⟩,
 ⟨(some 15), .ld false 1 (.t 14), none⟩,
 ⟨(some 7), .mv (.t 15), none⟩])
 (.seq (.reg [⟨(some 17), .fa 2 (.t 2), none⟩,
 ⟨(some 18), .ld false 1 (.t 17), none⟩,
 ⟨(some 19), .mv (.t 7), none⟩,
 ⟨(some 20), .call f_slices_BinarySearch_string_string [(.t 18), (.t 19)], none⟩,
 ⟨(some 16), .mv (.t 20), none⟩,
 ⟨(some 21), .ext (.t 16) 0, none⟩,
 ⟨(some 22), .ext (.t 16) 1, none⟩,
 ⟨(some 8), .mv (.t 21), none⟩,
 ⟨(some 9), .mv (.t 22), none⟩])
 (.seq (.seq (.reg [⟨(some 23), .fa 0 (.t 2), none⟩,
 ⟨(some 24), .ld false 1 (.t 23), none⟩,
 ⟨(some 25), .bin .neq (.t 24) (.c (.i .u8 2)), none⟩,
 ⟨(some 26), .mv (.t 25), none⟩,
 ⟨(some 27), .mv (.t 9), (some (26, false))⟩,
 ⟨(some 28), .un .not (.t 27), (some (26, false))⟩,
 ⟨(some 29), .pick (.t 26) (.c (.b true)) (.t 28), none⟩])
 (.cond (.t 29)
 (.seq (.reg [⟨(some 30), .build [(.i .u8 0), (.s []), .nsl, .nsl] [], none⟩,
 ⟨none, .st 4 (.t 4) (.t 30), none⟩,
 ⟨(some 5), .mv (.c (.b false)), none⟩])
 .ret)
 .skip))
 (.reg [⟨(some 31), .fa 3 (.t 2), none⟩,
 ⟨(some 32), .ld false 1 (.t 31), none⟩,
 ⟨(some 33), .mv (.t 8), none⟩,
 ⟨(some 34), .ia 4 (.t 32) (.t 33), none⟩,
 ⟨(some 35), .ld true 4 (.t 34), none⟩,
 ⟨none, .st 4 (.t 2) (.t 35), none⟩])))))
 (.reg [⟨(some 36), .bin .add (.t 12) (.c (.i .i64 1)), none⟩,
 ⟨(some 12), .mv (.t 36), none⟩])))))))
 (.seq (.reg [⟨(some 37), .ld true 4 (.t 2), none⟩,
 ⟨none, .st 4 (.t 4) (.t 37), none⟩,
 ⟨(some 5), .mv (.c (.b true)), none⟩])
 .ret))) }
def c_strings_ContainsAny : Fun := { cin := [.id, .id], cout := [.id], ntmps := 9, keep := false, res := [(4, none)], body :=
 (.seq (.reg [⟨(some 4), .mv (.c (.b false)), none⟩])
 (.seq (.reg [⟨(some 5), .mv (.t 0), none⟩,
 ⟨(some 6), .mv (.t 1), none⟩,
 ⟨(some 7), .call f_strings_IndexAny [(.t 5), (.t 6)], none⟩,
 ⟨(some 8), .bin .geq (.t 7) (.c (.i .i64 0)), none⟩,
 ⟨(some 4), .mv (.t 8), none⟩])
 .ret)) }
def c_internal_stringslite_IndexByte : Fun := { cin := [.id, .id], cout := [.id], ntmps := 8, keep := false, res := [(4, none)], body :=
 (.seq (.reg [⟨(some 4), .mv (.c (.i .i64 0)), none⟩])
 (.seq (.reg [⟨(some 5), .mv (.t 0), none⟩,
 ⟨(some 6), .mv (.t 1), none⟩,
 ⟨(some 7), .xtn 0 [(.t 5), (.t 6)], none⟩,
 ⟨(some 4), .mv (.t 7), none⟩])
 .ret)) }
def c_internal_bytealg_Cutover : Fun := { cin := [.id], cout := [.id], ntmps := 6, keep := false, res := [(2, none)], body :=
 (.seq (.reg [⟨(some 2), .mv (.c (.i .i64 0)), none⟩])
 (.seq (.reg [⟨(some 3), .mv (.t 0), none⟩,
 ⟨(some 4), .bin .add (.t 3) (.c (.i .i64 16)), none⟩,
 ⟨(some 5), .bin .quo (.t 4) (.c (.i .i64 8)), none⟩,
 ⟨(some 2), .mv (.t 5), none⟩])
 .ret)) }
def c_internal_bytealg_IndexRabinKarp_string : Fun := { cin := [.id, .id], cout := [.id], ntmps := 81, keep := false, res := [(4, none)], body :=
 (.seq (.reg [⟨(some 4), .mv (.c (.i .i64 0)), none⟩])
 (.seq (.reg [⟨(some 12), .mv (.t 1), none⟩,
 ⟨(some 13), .call f_internal_bytealg_hashStr_string [(.t 12)], none⟩,
 ⟨(some 11), .mv (.t 13), none⟩,
 ⟨(some 14), .ext (.t 11) 0, none⟩,
 ⟨(some 15), .ext (.t 11) 1, none⟩,
 ⟨(some 5), .mv (.t 14), none⟩,
 ⟨(some 6), .mv (.t 15), none⟩])
 (.seq (.reg [⟨(some 16), .mv (.t 1), none⟩,
 ⟨(some 17), .len 0 (.t 16), none⟩,
 ⟨(some 7), .mv (.t 17), none⟩])
 (.seq (.reg [⟨(some 8), .mv (.c (.i .u32 0)), none⟩])
 (.seq (.seq (.reg [⟨(some 9), .mv (.c (.i .i64 0)), none⟩])
 (.blk 0 (.loop (.seq (.seq (.reg [⟨(some 18), .mv (.t 9), none⟩,
 ⟨(some 19), .mv (.t 7), none⟩,
 ⟨(some 20), .bin .lss (.t 18) (.t 19), none⟩])
 (.cond (.t 20)
 .skip
 (.exit 0)))
 (.seq (.blk 1 (.reg [⟨(some 23), .mv (.t 8), none⟩,
 ⟨(some 24), .bin .mul (.t 23) (.c (.i .u32 16777619)), none⟩,
 ⟨(some 25), .mv (.t 0), none⟩,
 ⟨(some 26), .mv (.t 9), none⟩,
 ⟨(some 27), .ixS (.t 25) (.t 26), none⟩,
 ⟨(some 28), .cvI .u32 (.t 27), none⟩,
 ⟨(some 29), .bin .add (.t 24) (.t 28), none⟩,
 ⟨(some 8), .mv (.t 29), none⟩]))
 (.reg [⟨(some 21), .mv (.t 9), none⟩,
 ⟨(some 22), .bin .add (.t 21) (.c (.i .i64 1)), none⟩,
 ⟨(some 9), .mv (.t 22), none⟩]))))))
 (.seq (.seq (.reg [⟨(some 30), .mv (.t 8), none⟩,
 ⟨(some 31), .mv (.t 5), none⟩,
 ⟨(some 32), .bin .eql (.t 30) (.t 31), none⟩,
 ⟨(some 33), .mv (.t 32), none⟩,
 ⟨(some 34), .mv (.t 0), (some (33, true))⟩,
 ⟨(some 35), .mv (.t 7), (some (33, true))⟩,
 ⟨(some 36), .slS (.t 34) none (some (.t 35)), (some (33, true))⟩,
 ⟨(some 37), .mv (.t 1), (some (33, true))⟩,
 ⟨(some 38), .bin .eql (.t 36) (.t 37), (some (33, true))⟩,
 ⟨(some 39), .pick (.t 33) (.t 38) (.c (.b false)), none⟩])
 (.cond (.t 39)
 (.seq (.reg [⟨(some 4), .mv (.c (.i .i64 0)), none⟩])
 .ret)
 .skip))
 (.seq (.seq (.reg [⟨(some 40), .mv (.t 7), none⟩,
 ⟨(some 10), .mv (.t 40), none⟩])
 (.blk 2 (.loop (.seq (.seq (.reg [⟨(some 41), .mv (.t 10), none⟩,
 ⟨(some 42), .mv (.t 0), none⟩,
 ⟨(some 43), .len 0 (.t 42), none⟩,
 ⟨(some 44), .bin .lss (.t 41) (.t 43), none⟩])
 (.cond (.t 44)
 .skip
 (.exit 2)))
 (.blk 3 (.seq (.reg [⟨(some 45), .mv (.t 8), none⟩,
 ⟨(some 46), .bin .mul (.t 45) (.c (.i .u32 16777619)), none⟩,
 ⟨(some 8), .mv (.t 46), none⟩])
 (.seq (.reg [⟨(some 47), .mv (.t 8), none⟩,
 ⟨(some 48), .mv (.t 0), none⟩,
 ⟨(some 49), .mv (.t 10), none⟩,
 ⟨(some 50), .ixS (.t 48) (.t 49), none⟩,
 ⟨(some 51), .cvI .u32 (.t 50), none⟩,
 ⟨(some 52), .bin .add (.t 47) (.t 51), none⟩,
 ⟨(some 8), .mv (.t 52), none⟩])
 (.seq (.reg [⟨(some 53), .mv (.t 8), none⟩,
 ⟨(some 54), .mv (.t 6), none⟩,
 ⟨(some 55), .mv (.t 0), none⟩,
 ⟨(some 56), .mv (.t 10), none⟩,
 ⟨(some 57), .mv (.t 7), none⟩,
 ⟨(some 58), .bin .sub (.t 56) (.t 57), none⟩,
 ⟨(some 59), .ixS (.t 55) (.t 58), none⟩,
 ⟨(some 60), .cvI .u32 (.t 59), none⟩,
 ⟨(some 61), .bin .mul (.t 54) (.t 60), none⟩,
 ⟨(some 62), .bin .sub (.t 53) (.t 61), none⟩,
 ⟨(some 8), .mv (.t 62), none⟩])
 (.seq (.reg [⟨(some 63), .mv (.t 10), none⟩,
 ⟨(some 64), .bin .add (.t 63) (.c (.i .i64 1)), none⟩,
 ⟨(some 10), .mv (.t 64), none⟩])
 (.seq (.reg [⟨(some 65), .mv (.t 8), none⟩,
 ⟨(some 66), .mv (.t 5), none⟩,
 ⟨(some 67), .bin .eql (.t 65) (.t 66), none⟩,
 ⟨(some 68), .mv (.t 67), none⟩,
 ⟨(some 69), .mv (.t 0), (some (68, true))⟩,
 ⟨(some 70), .mv (.t 10), (some (68, true))⟩,
 ⟨(some 71), .mv (.t 7), (some (68, true))⟩,
 ⟨(some 72), .bin .sub (.t 70) (.t 71), (some (68, true))⟩,
 ⟨(some 73), .mv (.t 10), (some (68, true))⟩,
 ⟨(some 74), .slS (.t 69) (some (.t 72)) (some (.t 73)), (some (68, true))⟩,
 ⟨(some 75), .mv (.t 1), (some (68, true))⟩,
 ⟨(some 76), .bin .eql (.t 74) (.t 75), (some (68, true))⟩,
 ⟨(some 77), .pick (.t 68) (.t 76) (.c (.b false)), none⟩])
 (.cond (.t 77)
 (.seq (.reg [⟨(some 78), .mv (.t 10), none⟩,
 ⟨(some 79), .mv (.t 7), none⟩,
 ⟨(some 80), .bin .sub (.t 78) (.t 79), none⟩,
 ⟨(some 4), .mv (.t 80), none⟩])
 .ret)
 .skip)))))))))))
 (.seq (.reg [⟨(some 4), .mv (.c (.i .i64 (-1))), none⟩])
 .ret)))))))) }
def c_cmp_isNaN_string : Fun := { cin := [.id], cout := [.id], ntmps := 6, keep := false, res := [(2, none)], body :=
 (.seq (.reg [⟨(some 2), .mv (.c (.b false)), none⟩])
 (.seq (.reg [⟨(some 3), .mv (.t 0), none⟩,
 ⟨(some 4), .mv (.t 0), none⟩,
 ⟨(some 5), .bin .neq (.t 3) (.t 4), none⟩,
 ⟨(some 2), .mv (.t 5), none⟩])
 .ret)) }
def c_slices_rotateLeft_string : Fun := { cin := [(.sl 1 .id), .id], cout := [], ntmps := 14, keep := false, res := [], body :=
 (.seq (.reg [⟨(some 4), .mv (.t 0), none⟩,
 ⟨(some 5), .mv (.t 1), none⟩,
 ⟨(some 6), .slc false 1 (.t 4) none (some (.t 5)) none, none⟩,
 ⟨(some 7), .call f_slices_Reverse_string_string [(.t 6)], none⟩])
 (.seq (.reg [⟨(some 8), .mv (.t 0), none⟩,
 ⟨(some 9), .mv (.t 1), none⟩,
 ⟨(some 10), .slc false 1 (.t 8) (some (.t 9)) none none, none⟩,
 ⟨(some 11), .call f_slices_Reverse_string_string [(.t 10)], none⟩])
 (.seq (.thw 0)
 (.reg [⟨(some 12), .mv (.t 0), none⟩,
 ⟨(some 13), .call f_slices_Reverse_string_string [(.t 12)], none⟩])))) }
def c_slices_rotateLeft_api_Node : Fun := { cin := [(.sl 4 (.agg [.id, .id, (.sl 1 .id), (.sl 4 (.agg [.id, .id, (.sl 1 .id), (.sl 4 (.agg [.id, .id, .id, .id]))]))])), .id], cout := [], ntmps := 14, keep := false, res := [], body :=
 (.seq (.reg [⟨(some 4), .mv (.t 0), none⟩,
 ⟨(some 5), .mv (.t 1), none⟩,
 ⟨(some 6), .slc false 4 (.t 4) none (some (.t 5)) none, none⟩,
 ⟨(some 7), .call f_slices_Reverse_api_Node_api_Node [(.t 6)], none⟩])
 (.seq (.reg [⟨(some 8), .mv (.t 0), none⟩,
 ⟨(some 9), .mv (.t 1), none⟩,
 ⟨(some 10), .slc false 4 (.t 8) (some (.t 9)) none none, none⟩,
 ⟨(some 11), .call f_slices_Reverse_api_Node_api_Node [(.t 10)], none⟩])
 (.seq (.thw 0)
 (.reg [⟨(some 12), .mv (.t 0), none⟩,
 ⟨(some 13), .call f_slices_Reverse_api_Node_api_Node [(.t 12)], none⟩])))) }
def c_dirs_call_spot : Fun := { cin := [(.agg [.id, .id, (.sl 1 .id)]), .id, .id], cout := [.id], ntmps := 26, keep := false, res := [(6, none)], body :=
 (.seq (.reg [⟨(some 3), .box 160 3 (.t 0), none⟩,
 ⟨(some 6), .mv (.c (.i .i64 0)), none⟩])
 (.seq (.reg [⟨(some 11), .fa 0 (.t 3), none⟩,
 ⟨(some 12), .ld false 1 (.t 11), none⟩,
 ⟨(some 13), .mv (.t 1), none⟩,
 ⟨(some 14), .call f_walk_Spot [(.t 12), (.t 13)], none⟩,
 ⟨(some 10), .mv (.t 14), none⟩,
 ⟨(some 15), .ext (.t 10) 0, none⟩,
 ⟨(some 16), .ext (.t 10) 1, none⟩,
 ⟨(some 17), .ext (.t 10) 2, none⟩,
 ⟨(some 7), .mv (.t 15), none⟩,
 ⟨(some 8), .mv (.t 16), none⟩,
 ⟨(some 9), .mv (.t 17), none⟩])
 (.seq (.seq (.reg [⟨(some 18), .mv (.t 9), none⟩,
 ⟨(some 19), .bin .neq (.t 18) (.c (.i .i64 0)), none⟩])
 (.cond (.t 19)
 (.seq (.reg [⟨(some 20), .mv (.t 9), none⟩,
 ⟨(some 6), .mv (.t 20), none⟩])
 .ret)
 .skip))
 (.seq (.reg [⟨(some 21), .mv (.t 2), none⟩,
 ⟨(some 22), .fa 0 (.t 3), none⟩,
 ⟨(some 23), .ld false 1 (.t 22), none⟩,
 ⟨(some 24), .mv (.t 7), none⟩,
 ⟨(some 25), .callX (.t 21) [(.t 23), (.t 24)], none⟩,
 ⟨(some 6), .mv (.t 25), none⟩])
 .ret)))) }
def c_prim_MakeDir : Fun := { cin := [.id, (.sl 1 .id)], cout := [.id], ntmps := 9, keep := false, res := [(4, none)], body :=
 (.seq (.reg [⟨(some 4), .mv (.c (.i .i64 0)), none⟩])
 (.seq (.reg [⟨(some 5), .mv (.t 0), none⟩,
 ⟨(some 6), .mv (.t 1), none⟩,
 ⟨(some 7), .build [(.i .u8 0), (.s []), .nsl, .nsl] [(0, 1, (.c (.i .u8 2)))], none⟩,
 ⟨(some 8), .call f_prim_put [(.t 5), (.t 6), (.t 7)], none⟩,
 ⟨(some 4), .mv (.t 8), none⟩])
 .ret)) }
def c_path_Steps : Fun := { cin := [.id], cout := [(.sl 1 .id)], ntmps := 6, keep := false, res := [(2, none)], body :=
 (.seq (.reg [⟨(some 2), .mv (.c .nsl), none⟩])
 (.seq (.reg [⟨(some 3), .mv (.t 0), none⟩,
 ⟨(some 4), .call f_path_steps [(.t 3)], none⟩,
 ⟨(some 5), .call f_slices_Collect_string [(.t 4)], none⟩,
 ⟨(some 2), .mv (.t 5), none⟩])
 .ret)) }
def c_strings_Builder_WriteString : Fun := { cin := [.id, .id], cout := [.id, .id], ntmps := 19, keep := false, res := [(4, none), (5, none)], body :=
 (.seq (.reg [⟨(some 4), .mv (.c (.i .i64 0)), none⟩,
 ⟨(some 5), .mv (.c .ni), none⟩])
 (.seq (.reg [⟨(some 6), .mv (.t 0), none⟩,
 ⟨(some 7), .call f_strings_Builder_copyCheck [(.t 6)], none⟩])
 (.seq (.reg [⟨(some 8), .mv (.t 0), none⟩,
 ⟨(some 9), .mv (.t 0), none⟩,
 ⟨(some 10), .nck (.t 9), none⟩,
 ⟨(some 11), .fa 1 (.t 10), none⟩,
 ⟨(some 12), .ld false 1 (.t 11), none⟩,
 ⟨(some 13), .mv (.t 1), none⟩,
 ⟨(some 14), .app 1 5 (.t 12) (.t 13), none⟩,
 ⟨(some 15), .nck (.t 8), none⟩,
 ⟨(some 16), .fa 1 (.t 15), none⟩,
 ⟨none, .st 1 (.t 16) (.t 14), none⟩])
 (.seq (.reg [⟨(some 17), .mv (.t 1), none⟩,
 ⟨(some 18), .len 0 (.t 17), none⟩,
 ⟨(some 4), .mv (.t 18), none⟩,
 ⟨(some 5), .mv (.c .ni), none⟩])
 .ret)))) }
def c_walk_Find : Fun := { cin := [.id, .id], cout := [(.sl 1 .id), .id, .id], ntmps := 13, keep := false, res := [(4, none), (5, none), (6, none)], body :=
 (.seq (.reg [⟨(some 4), .mv (.c .nsl), none⟩,
 ⟨(some 5), .mv (.c (.i .u8 0)), none⟩,
 ⟨(some 6), .mv (.c (.i .i64 0)), none⟩])
 (.seq (.reg [⟨(some 7), .mv (.t 0), none⟩,
 ⟨(some 8), .mv (.t 1), none⟩,
 ⟨(some 9), .call f_walk_walk [(.t 7), (.t 8), (.c (.b true))], none⟩,
 ⟨(some 10), .ext (.t 9) 0, none⟩,
 ⟨(some 11), .ext (.t 9) 1, none⟩,
 ⟨(some 12), .ext (.t 9) 2, none⟩,
 ⟨(some 4), .mv (.t 10), none⟩,
 ⟨(some 5), .mv (.t 11), none⟩,
 ⟨(some 6), .mv (.t 12), none⟩])
 .ret)) }
def c_strings_Builder_String : Fun := { cin := [.id], cout := [.id], ntmps := 14, keep := false, res := [(2, none)], body :=
 (.seq (.reg [⟨(some 2), .mv (.c (.s [])), none⟩])
 (.seq (.regD [⟨(some 3), .mv (.t 0), none⟩,
 ⟨(some 4), .nck (.t 3), none⟩,
 ⟨(some 5), .fa 1 (.t 4), none⟩,
 ⟨(some 6), .ld false 1 (.t 5), none⟩,
 ⟨(some 7), .ud (.t 6), none⟩,
 ⟨(some 8), .mv (.t 0), none⟩,
 ⟨(some 9), .nck (.t 8), none⟩,
 ⟨(some 10), .fa 1 (.t 9), none⟩,
 ⟨(some 11), .ld false 1 (.t 10), none⟩,
 ⟨(some 12), .len 1 (.t 11), none⟩,
 ⟨(some 13), .us 5 (.t 7) (.t 12), none⟩,
 ⟨(some 2), .mv (.t 13), none⟩] [])
 .ret)) }
def c_prim_RemoveDir : Fun := { cin := [.id, (.sl 1 .id)], cout := [.id], ntmps := 9, keep := false, res := [(4, none)], body :=
 (.seq (.reg [⟨(some 2), .box 147 1 (.t 0), none⟩,
 ⟨(some 3), .box 26 1 (.t 1), none⟩,
 ⟨(some 4), .mv (.c (.i .i64 0)), none⟩])
 (.seq (.reg [⟨(some 5), .ld false 1 (.t 2), none⟩,
 ⟨(some 6), .ld false 1 (.t 3), none⟩,
 ⟨(some 7), .mkf f_prim_RemoveDir_1 [(.t 3), (.t 2)], none⟩,
 ⟨(some 8), .call f_prim_remove [(.t 5), (.t 6), (.t 7)], none⟩,
 ⟨(some 4), .mv (.t 8), none⟩])
 .ret)) }
def c_walk_Spot : Fun := { cin := [.id, .id], cout := [(.sl 1 .id), .id, .id], ntmps := 13, keep := false, res := [(4, none), (5, none), (6, none)], body :=
 (.seq (.reg [⟨(some 4), .mv (.c .nsl), none⟩,
 ⟨(some 5), .mv (.c (.i .u8 0)), none⟩,
 ⟨(some 6), .mv (.c (.i .i64 0)), none⟩])
 (.seq (.reg [⟨(some 7), .mv (.t 0), none⟩,
 ⟨(some 8), .mv (.t 1), none⟩,
 ⟨(some 9), .call f_walk_walk [(.t 7), (.t 8), (.c (.b false))], none⟩,
 ⟨(some 10), .ext (.t 9) 0, none⟩,
 ⟨(some 11), .ext (.t 9) 1, none⟩,
 ⟨(some 12), .ext (.t 9) 2, none⟩,
 ⟨(some 4), .mv (.t 10), none⟩,
 ⟨(some 5), .mv (.t 11), none⟩,
 ⟨(some 6), .mv (.t 12), none⟩])
 .ret)) }
def c_path_Dir : Fun := { cin := [.id], cout := [.id], ntmps := 23, keep := false, res := [(2, none)], body :=
 (.seq (.reg [⟨(some 2), .mv (.c (.b false)), none⟩])
 (.seq (.reg [⟨(some 4), .mv (.t 0), none⟩,
 ⟨(some 5), .mv (.t 0), none⟩,
 ⟨(some 6), .call f_strings_LastIndexByte [(.t 5), (.c (.i .u8 47))], none⟩,
 ⟨(some 7), .bin .add (.t 6) (.c (.i .i64 1)), none⟩,
 ⟨(some 8), .slS (.t 4) (some (.t 7)) none, none⟩,
 ⟨(some 3), .mv (.t 8), none⟩])
 (.seq (.reg [⟨(some 9), .mv (.t 3), none⟩,
 ⟨(some 10), .bin .eql (.t 9) (.c (.s [46])), none⟩,
 ⟨(some 11), .mv (.t 10), none⟩,
 ⟨(some 12), .mv (.t 3), (some (11, false))⟩,
 ⟨(some 13), .bin .eql (.t 12) (.c (.s [46, 46])), (some (11, false))⟩,
 ⟨(some 14), .pick (.t 11) (.c (.b true)) (.t 13), none⟩,
 ⟨(some 15), .mv (.t 14), none⟩,
 ⟨(some 16), .mv (.t 3), (some (15, false))⟩,
 ⟨(some 17), .bin .eql (.t 16) (.c (.s [])), (some (15, false))⟩,
 ⟨(some 18), .mv (.t 17), (some (15, false))⟩,
 ⟨(some 19), .mv (.t 0), (some (18, true))⟩,
 ⟨(some 20), .bin .neq (.t 19) (.c (.s [])), (some (18, true))⟩,
 ⟨(some 21), .pick (.t 18) (.t 20) (.c (.b false)), (some (15, false))⟩,
 ⟨(some 22), .pick (.t 15) (.c (.b true)) (.t 21), none⟩,
 ⟨(some 2), .mv (.t 22), none⟩])
 .ret))) }
def c_prim_Touch : Fun := { cin := [.id, (.sl 1 .id)], cout := [.id], ntmps := 10, keep := false, res := [(4, none)], body :=
 (.seq (.reg [⟨(some 2), .box 147 1 (.t 0), none⟩,
 ⟨(some 3), .box 26 1 (.t 1), none⟩,
 ⟨(some 4), .mv (.c (.i .i64 0)), none⟩])
 (.seq (.reg [⟨(some 5), .ld false 1 (.t 2), none⟩,
 ⟨(some 6), .mkf f_prim_Touch_1 [(.t 2), (.t 3)], none⟩,
 ⟨(some 7), .ld false 1 (.t 3), none⟩,
 ⟨(some 8), .bsl 1 [(.t 7)], none⟩,
 ⟨(some 9), .call f_prim_at [(.t 5), (.t 6), (.t 8)], none⟩,
 ⟨(some 4), .mv (.t 9), none⟩])
 .ret)) }
def c_prim_Unlink : Fun := { cin := [.id, (.sl 1 .id)], cout := [.id], ntmps := 8, keep := false, res := [(4, none)], body :=
 (.seq (.reg [⟨(some 4), .mv (.c (.i .i64 0)), none⟩])
 (.seq (.reg [⟨(some 5), .mv (.t 0), none⟩,
 ⟨(some 6), .mv (.t 1), none⟩,
 ⟨(some 7), .call f_prim_remove [(.t 5), (.t 6), (.c (.fn f_prim_Unlink_1 []))], none⟩,
 ⟨(some 4), .mv (.t 7), none⟩])
 .ret)) }
def c_prim_RemoveAll : Fun := { cin := [.id, (.sl 1 .id)], cout := [.id], ntmps := 9, keep := false, res := [(4, none)], body :=
 (.seq (.reg [⟨(some 3), .box 26 1 (.t 1), none⟩,
 ⟨(some 4), .mv (.c (.i .i64 0)), none⟩])
 (.seq (.reg [⟨(some 5), .mv (.t 0), none⟩,
 ⟨(some 6), .ld false 1 (.t 3), none⟩,
 ⟨(some 7), .mkf f_prim_RemoveAll_1 [(.t 3)], none⟩,
 ⟨(some 8), .call f_prim_remove [(.t 5), (.t 6), (.t 7)], none⟩,
 ⟨(some 4), .mv (.t 8), none⟩])
 .ret)) }
def c_path_steps_1 : Fun := { cin := [.id], cout := [], ntmps := 19, keep := false, res := [], body :=
 (.seq (.reg [⟨(some 2), .box 82 1 (.t 0), none⟩])
 (.seq (.reg [⟨(some 4), .ld false 1 (.t 1), none⟩,
 ⟨(some 5), .call f_strings_SplitSeq [(.t 4), (.c (.s [47]))], none⟩])
 (.blk 0 (.rf (.t 5) [6] (.reg [⟨(some 3), .mv (.t 6), none⟩])
 (.blk 1 (.seq (.reg [⟨(some 7), .mv (.t 3), none⟩,
 ⟨(some 8), .bin .neq (.t 7) (.c (.s [])), none⟩,
 ⟨(some 9), .mv (.t 8), none⟩,
 ⟨(some 10), .mv (.t 3), (some (9, true))⟩,
 ⟨(some 11), .bin .neq (.t 10) (.c (.s [46])), (some (9, true))⟩,
 ⟨(some 12), .pick (.t 9) (.t 11) (.c (.b false)), none⟩,
 ⟨(some 13), .mv (.t 12), none⟩,
 ⟨(some 14), .ld false 1 (.t 2), (some (13, true))⟩,
 ⟨(some 15), .mv (.t 3), (some (13, true))⟩,
 ⟨(some 16), .callX (.t 14) [(.t 15)], (some (13, true))⟩,
 ⟨(some 17), .un .not (.t 16), (some (13, true))⟩,
 ⟨(some 18), .pick (.t 13) (.t 17) (.c (.b false)), none⟩])
 (.cond (.t 18)
 .ret
 .skip))))))) }
def c_strings_SplitSeq : Fun := { cin := [.id, .id], cout := [.id], ntmps := 8, keep := false, res := [(4, none)], body :=
 (.seq (.reg [⟨(some 4), .mv (.c .nf), none⟩])
 (.seq (.reg [⟨(some 5), .mv (.t 0), none⟩,
 ⟨(some 6), .mv (.t 1), none⟩,
 ⟨(some 7), .call f_strings_splitSeq [(.t 5), (.t 6), (.c (.i .i64 0))], none⟩,
 ⟨(some 4), .mv (.t 7), none⟩])
 .ret)) }
def c_strings_IndexAny : Fun := { cin := [.id, .id], cout := [.id], ntmps := 55, keep := false, res := [(4, none)], body :=
 (.seq (.reg [⟨(some 4), .mv (.c (.i .i64 0)), none⟩])
 (.seq (.seq (.reg [⟨(some 11), .mv (.t 1), none⟩,
 ⟨(some 12), .bin .eql (.t 11) (.c (.s [])), none⟩])
 (.cond (.t 12)
 (.seq (.reg [⟨(some 4), .mv (.c (.i .i64 (-1))), none⟩])
 .ret)
 .skip))
 (.seq (.seq (.reg [⟨(some 13), .mv (.t 1), none⟩,
 ⟨(some 14), .len 0 (.t 13), none⟩,
 ⟨(some 15), .bin .eql (.t 14) (.c (.i .i64 1)), none⟩])
 (.cond (.t 15)
 (.seq (.reg [⟨(some 16), .mv (.t 1), none⟩,
 ⟨(some 17), .ixS (.t 16) (.c (.i .i64 0)), none⟩,
 ⟨(some 18), .cvI .i32 (.t 17), none⟩,
 ⟨(some 5), .mv (.t 18), none⟩])
 (.seq (.seq (.reg [⟨(some 19), .mv (.t 5), none⟩,
 ⟨(some 20), .bin .geq (.t 19) (.c (.i .i32 128)), none⟩])
 (.cond (.t 20)
 (.reg [⟨(some 5), .mv (.c (.i .i32 65533)), none⟩])
 .skip))
 (.seq (.reg [⟨(some 21), .mv (.t 0), none⟩,
 ⟨(some 22), .mv (.t 5), none⟩,
 ⟨(some 23), .call f_strings_IndexRune [(.t 21), (.t 22)], none⟩,
 ⟨(some 4), .mv (.t 23), none⟩])
 .ret)))
 .skip))
 (.seq (.seq (.reg [⟨(some 24), .mv (.t 0), none⟩,
 ⟨(some 25), .len 0 (.t 24), none⟩,
 ⟨(some 26), .call f_strings_shouldUseASCIISet [(.t 25)], none⟩])
 (.cond (.t 26)
 (.seq (.reg [⟨(some 28), .mv (.t 1), none⟩,
 ⟨(some 29), .call f_strings_makeASCIISet [(.t 28)], none⟩,
 ⟨(some 27), .mv (.t 29), none⟩,
 ⟨(some 30), .ext (.t 27) 0, none⟩,
 ⟨(some 31), .ext (.t 27) 1, none⟩,
 ⟨(some 6), .alloc 245 [(.b false), (.b false), (.b false), (.b false), (.b false), (.b false), (.b false), (.b false), (.b false), (.b false), (.b false), (.b false), (.b false), (.b false), (.b false), (.b false), (.b false), (.b false), (.b false), (.b false), (.b false), (.b false), (.b false), (.b false), (.b false), (.b false), (.b false), (.b false), (.b false), (.b false), (.b false), (.b false), (.b false), (.b false), (.b false), (.b false), (.b false), (.b false), (.b false), (.b false), (.b false), (.b false), (.b false), (.b false), (.b false), (.b false), (.b false), (.b false), (.b false), (.b false), (.b false), (.b false), (.b false), (.b false), (.b false), (.b false), (.b false), (.b false), (.b false), (.b false), (.b false), (.b false), (.b false), (.b false), (.b false), (.b false), (.b false), (.b false), (.b false), (.b false), (.b false), (.b false), (.b false), (.b false), (.b false), (.b false), (.b false), (.b false), (.b false), (.b false), (.b false), (.b false), (.b false), (.b false), (.b false), (.b false), (.b false), (.b false), (.b false), (.b false), (.b false), (.b false), (.b false), (.b false), (.b false), (.b false), (.b false), (.b false), (.b false), (.b false), (.b false), (.b false), (.b false), (.b false), (.b false), (.b false), (.b false), (.b false), (.b false), (.b false), (.b false), (.b false), (.b false), (.b false), (.b false), (.b false), (.b false), (.b false), (.b false), (.b false), (.b false), (.b false), (.b false), (.b false), (.b false), (.b false), (.b false), (.b false), (.b false), (.b false), (.b false), (.b false), (.b false), (.b false), (.b false), (.b false), (.b false), (.b false), (.b false), (.b false), (.b false), (.b false), (.b false), (.b false), (.b false), (.b false), (.b false), (.b false), (.b false), (.b false), (.b false), (.b false), (.b false), (.b false), (.b false), (.b false), (.b false), (.b false), (.b false), (.b false), (.b false), (.b false), (.b false), (.b false), (.b false), (.b false), (.b false), (.b false), (.b false), (.b false), (.b false), (.b false), (.b false), (.b false), (.b false), (.b false), (.b false), (.b false), (.b false), (.b false), (.b false), (.b false), (.b false), (.b false), (.b false), (.b false), (.b false), (.b false), (.b false), (.b false), (.b false), (.b false), (.b false), (.b false), (.b false), (.b false), (.b false), (.b false), (.b false), (.b false), (.b false), (.b false), (.b false), (.b false), (.b false), (.b false), (.b false), (.b false), (.b false), (.b false), (.b false), (.b false), (.b false), (.b false), (.b false), (.b false), (.b false), (.b false), (.b false), (.b false), (.b false), (.b false), (.b false), (.b false), (.b false), (.b false), (.b false), (.b false), (.b false), (.b false), (.b false), (.b false), (.b false), (.b false), (.b false), (.b false), (.b false), (.b false), (.b false), (.b false), (.b false), (.b false), (.b false), (.b false), (.b false), (.b false), (.b false), (.b false), (.b false), (.b false), (.b false), (.b false), (.b false), (.b false), (.b false), (.b false)], none⟩,
 ⟨none, .st 256 (.t 6) (.t 30), none⟩,
 ⟨(some 7), .mv (.t 31), none⟩])
 (.seq (.reg [⟨(some 32), .mv (.t 7), none⟩])
 (.cond (.t 32)
 (.seq (.seq (.reg [⟨(some 8), .mv (.c (.i .i64 0)), none⟩])
 (.blk 0 (.loop (.seq (.seq (.reg [⟨(some 33), .mv (.t 8), none⟩,
 ⟨(some 34), .mv (.t 0), none⟩,
 ⟨(some 35), .len 0 (.t 34), none⟩,
 ⟨(some 36), .bin .lss (.t 33) (.t 35), none⟩])
 (.cond (.t 36)
 .skip
 (.exit 0)))
 (.seq (.blk 1 (.seq (.reg [⟨(some 39), .mv (.t 0), none⟩,
 ⟨(some 40), .mv (.t 8), none⟩,
 ⟨(some 41), .ixS (.t 39) (.t 40), none⟩,
 ⟨(some 42), .call f_strings_asciiSet_contains [(.t 6), (.t 41)], none⟩])
 (.cond (.t 42)
 (.seq (.reg [⟨(some 43), .mv (.t 8), none⟩,
 ⟨(some 4), .mv (.t 43), none⟩])
 .ret)
 .skip)))
 (.reg [⟨(some 37), .mv (.t 8), none⟩,
 ⟨(some 38), .bin .add (.t 37) (.c (.i .i64 1)), none⟩,
 ⟨(some 8), .mv (.t 38), none⟩]))))))
 (.seq (.reg [⟨(some 4), .mv (.c (.i .i64 (-1))), none⟩])
 .ret))
 .skip)))
 .skip))
 (.seq (.seq (.reg [⟨(some 44), .mv (.t 0), none⟩,
 ⟨(some 45), .siter (.t 44), none⟩])
 (.blk 2 (.loop (.seq (.reg [⟨(some 46), .snext (.t 45), none⟩,
 ⟨(some 47), .ext (.t 46) 0, none⟩])
 (.seq (.cond (.t 47)
 .skip
 (.exit 2))
 (.blk 3 (.seq (.reg [⟨(some 48), .ext (.t 46) 1, none⟩,
 ⟨(some 49), .ext (.t 46) 2, none⟩,
 ⟨(some 9), .mv (.t 48), none⟩,
 ⟨(some 10), .mv (.t 49), none⟩])
 (.seq (.reg [⟨(some 50), .mv (.t 1), none⟩,
 ⟨(some 51), .mv (.t 10), none⟩,
 ⟨(some 52), .call f_strings_IndexRune [(.t 50), (.t 51)], none⟩,
 ⟨(some 53), .bin .geq (.t 52) (.c (.i .i64 0)), none⟩])
 (.cond (.t 53)
 (.seq (.reg [⟨(some 54), .mv (.t 9), none⟩,
 ⟨(some 4), .mv (.t 54), none⟩])
 .ret)
 .skip)))))))))
 (.seq (.reg [⟨(some 4), .mv (.c (.i .i64 (-1))), none⟩])
 .ret)))))) }
def c_internal_bytealg_hashStr_string : Fun := { cin := [.id], cout := [.id, .id], ntmps := 39, keep := false, res := [(2, none), (3, none)], body :=
 (.seq (.reg [⟨(some 2), .mv (.c (.i .u32 0)), none⟩,
 ⟨(some 3), .mv (.c (.i .u32 0)), none⟩])
 (.seq (.reg [⟨(some 4), .mv (.c (.i .u32 0)), none⟩])
 (.seq (.seq (.reg [⟨(some 5), .mv (.c (.i .i64 0)), none⟩])
 (.blk 0 (.loop (.seq (.seq (.reg [⟨(some 9), .mv (.t 5), none⟩,
 ⟨(some 10), .mv (.t 0), none⟩,
 ⟨(some 11), .len 0 (.t 10), none⟩,
 ⟨(some 12), .bin .lss (.t 9) (.t 11), none⟩])
 (.cond (.t 12)
 .skip
 (.exit 0)))
 (.seq (.blk 1 (.reg [⟨(some 15), .mv (.t 4), none⟩,
 ⟨(some 16), .bin .mul (.t 15) (.c (.i .u32 16777619)), none⟩,
 ⟨(some 17), .mv (.t 0), none⟩,
 ⟨(some 18), .mv (.t 5), none⟩,
 ⟨(some 19), .ixS (.t 17) (.t 18), none⟩,
 ⟨(some 20), .cvI .u32 (.t 19), none⟩,
 ⟨(some 21), .bin .add (.t 16) (.t 20), none⟩,
 ⟨(some 4), .mv (.t 21), none⟩]))
 (.reg [⟨(some 13), .mv (.t 5), none⟩,
 ⟨(some 14), .bin .add (.t 13) (.c (.i .i64 1)), none⟩,
 ⟨(some 5), .mv (.t 14), none⟩]))))))
 (.seq (.reg [⟨(some 6), .mv (.c (.i .u32 1)), none⟩,
 ⟨(some 7), .mv (.c (.i .u32 16777619)), none⟩])
 (.seq (.seq (.reg [⟨(some 22), .mv (.t 0), none⟩,
 ⟨(some 23), .len 0 (.t 22), none⟩,
 ⟨(some 8), .mv (.t 23), none⟩])
 (.blk 2 (.loop (.seq (.seq (.reg [⟨(some 24), .mv (.t 8), none⟩,
 ⟨(some 25), .bin .gtr (.t 24) (.c (.i .i64 0)), none⟩])
 (.cond (.t 25)
 .skip
 (.exit 2)))
 (.seq (.blk 3 (.seq (.seq (.reg [⟨(some 28), .mv (.t 8), none⟩,
 ⟨(some 29), .bin .and (.t 28) (.c (.i .i64 1)), none⟩,
 ⟨(some 30), .bin .neq (.t 29) (.c (.i .i64 0)), none⟩])
 (.cond (.t 30)
 (.reg [⟨(some 31), .mv (.t 6), none⟩,
 ⟨(some 32), .mv (.t 7), none⟩,
 ⟨(some 33), .bin .mul (.t 31) (.t 32), none⟩,
 ⟨(some 6), .mv (.t 33), none⟩])
 .skip))
 (.reg [⟨(some 34), .mv (.t 7), none⟩,
 ⟨(some 35), .mv (.t 7), none⟩,
 ⟨(some 36), .bin .mul (.t 34) (.t 35), none⟩,
 ⟨(some 7), .mv (.t 36), none⟩])))
 (.reg [⟨(some 26), .mv (.t 8), none⟩,
 ⟨(some 27), .bin .shr (.t 26) (.c (.i .u64 1)), none⟩,
 ⟨(some 8), .mv (.t 27), none⟩]))))))
 (.seq (.reg [⟨(some 37), .mv (.t 4), none⟩,
 ⟨(some 38), .mv (.t 6), none⟩,
 ⟨(some 2), .mv (.t 37), none⟩,
 ⟨(some 3), .mv (.t 38), none⟩])
 .ret)))))) }
def c_slices_Reverse_string_string : Fun := { cin := [(.sl 1 .id)], cout := [], ntmps := 28, keep := false, res := [], body :=
 (.seq (.reg [⟨(some 4), .mv (.t 0), none⟩,
 ⟨(some 5), .len 1 (.t 4), none⟩,
 ⟨(some 6), .bin .sub (.t 5) (.c (.i .i64 1)), none⟩,
 ⟨(some 2), .mv (.c (.i .i64 0)), none⟩,
 ⟨(some 3), .mv (.t 6), none⟩])
 (.blk 0 (.loop (.seq (.seq (.reg [⟨(some 7), .mv (.t 2), none⟩,
 ⟨(some 8), .mv (.t 3), none⟩,
 ⟨(some 9), .bin .lss (.t 7) (.t 8), none⟩])
 (.cond (.t 9)
 .skip
 (.exit 0)))
 (.seq (.blk 1 (.seq (.thw 0)
 (.regD [⟨(some 14), .mv (.t 0), none⟩,
 ⟨(some 15), .mv (.t 2), none⟩,
 ⟨(some 16), .mv (.t 0), none⟩,
 ⟨(some 17), .mv (.t 3), none⟩,
 ⟨(some 18), .mv (.t 0), none⟩,
 ⟨(some 19), .mv (.t 3), none⟩,
 ⟨(some 20), .ia 1 (.t 18) (.t 19), none⟩,
 ⟨(some 21), .ld false 1 (.t 20), none⟩,
 ⟨(some 22), .mv (.t 0), none⟩,
 ⟨(some 23), .mv (.t 2), none⟩,
 ⟨(some 24), .ia 1 (.t 22) (.t 23), none⟩,
 ⟨(some 25), .ld false 1 (.t 24), none⟩,
 ⟨(some 26), .ia 1 (.t 14) (.t 15), none⟩,
 ⟨none, .st 1 (.t 26) (.t 21), none⟩,
 ⟨(some 27), .ia 1 (.t 16) (.t 17), none⟩,
 ⟨none, .st 1 (.t 27) (.t 25), none⟩] [])))
 (.reg [⟨(some 10), .mv (.t 2), none⟩,
 ⟨(some 11), .bin .add (.t 10) (.c (.i .i64 1)), none⟩,
 ⟨(some 12), .mv (.t 3), none⟩,
 ⟨(some 13), .bin .sub (.t 12) (.c (.i .i64 1)), none⟩,
 ⟨(some 2), .mv (.t 11), none⟩,
 ⟨(some 3), .mv (.t 13), none⟩])))))) }
def c_slices_Reverse_api_Node_api_Node : Fun := { cin := [(.sl 4 (.agg [.id, .id, (.sl 1 .id), (.sl 4 (.agg [.id, .id, (.sl 1 .id), (.sl 4 (.agg [.id, .id, .id, .id]))]))]))], cout := [], ntmps := 28, keep := false, res := [], body :=
 (.seq (.reg [⟨(some 4), .mv (.t 0), none⟩,
 ⟨(some 5), .len 1 (.t 4), none⟩,
 ⟨(some 6), .bin .sub (.t 5) (.c (.i .i64 1)), none⟩,
 ⟨(some 2), .mv (.c (.i .i64 0)), none⟩,
 ⟨(some 3), .mv (.t 6), none⟩])
 (.blk 0 (.loop (.seq (.seq (.reg [⟨(some 7), .mv (.t 2), none⟩,
 ⟨(some 8), .mv (.t 3), none⟩,
 ⟨(some 9), .bin .lss (.t 7) (.t 8), none⟩])
 (.cond (.t 9)
 .skip
 (.exit 0)))
 (.seq (.blk 1 (.seq (.thw 0)
 (.regD [⟨(some 14), .mv (.t 0), none⟩,
 ⟨(some 15), .mv (.t 2), none⟩,
 ⟨(some 16), .mv (.t 0), none⟩,
 ⟨(some 17), .mv (.t 3), none⟩,
 ⟨(some 18), .mv (.t 0), none⟩,
 ⟨(some 19), .mv (.t 3), none⟩,
 ⟨(some 20), .ia 4 (.t 18) (.t 19), none⟩,
 ⟨(some 21), .ld true 4 (.t 20), none⟩,
 ⟨(some 22), .mv (.t 0), none⟩,
 ⟨(some 23), .mv (.t 2), none⟩,
 ⟨(some 24), .ia 4 (.t 22) (.t 23), none⟩,
 ⟨(some 25), .ld true 4 (.t 24), none⟩,
 ⟨(some 26), .ia 4 (.t 14) (.t 15), none⟩,
 ⟨none, .st 4 (.t 26) (.t 21), none⟩,
 ⟨(some 27), .ia 4 (.t 16) (.t 17), none⟩,
 ⟨none, .st 4 (.t 27) (.t 25), none⟩] [])))
 (.reg [⟨(some 10), .mv (.t 2), none⟩,
 ⟨(some 11), .bin .add (.t 10) (.c (.i .i64 1)), none⟩,
 ⟨(some 12), .mv (.t 3), none⟩,
 ⟨(some 13), .bin .sub (.t 12) (.c (.i .i64 1)), none⟩,
 ⟨(some 2), .mv (.t 11), none⟩,
 ⟨(some 3), .mv (.t 13), none⟩])))))) }
def c_prim_put : Fun := { cin := [.id, (.sl 1 .id), (.agg [.id, .id, (.sl 1 .id), (.sl 4 (.agg [.id, .id, (.sl 1 .id), (.sl 4 (.agg [.id, .id, (.sl 1 .id), (.sl 4 .id)]))]))])], cout := [.id], ntmps := 12, keep := false, res := [(6, none)], body :=
 (.seq (.reg [⟨(some 3), .box 147 1 (.t 0), none⟩,
 ⟨(some 4), .box 26 1 (.t 1), none⟩,
 ⟨(some 5), .box 49 4 (.t 2), none⟩,
 ⟨(some 6), .mv (.c (.i .i64 0)), none⟩])
 (.seq (.reg [⟨(some 7), .ld false 1 (.t 3), none⟩,
 ⟨(some 8), .mkf f_prim_put_1 [(.t 5), (.t 3), (.t 4)], none⟩,
 ⟨(some 9), .ld false 1 (.t 4), none⟩,
 ⟨(some 10), .bsl 1 [(.t 9)], none⟩,
 ⟨(some 11), .call f_prim_at [(.t 7), (.t 8), (.t 10)], none⟩,
 ⟨(some 6), .mv (.t 11), none⟩])
 .ret)) }
def c_strings_Builder_copyCheck : Fun := { cin := [.id], cout := [], ntmps := 20, keep := false, res := [], body :=
 (.seq (.reg [⟨(some 2), .mv (.t 0), none⟩,
 ⟨(some 3), .nck (.t 2), none⟩,
 ⟨(some 4), .fa 0 (.t 3), none⟩,
 ⟨(some 5), .ld false 1 (.t 4), none⟩,
 ⟨(some 6), .eq .ptr false (.t 5) (.c .np), none⟩])
 (.cond (.t 6)
 (.reg [⟨(some 7), .mv (.t 0), none⟩,
 ⟨(some 8), .mv (.t 0), none⟩,
 ⟨(some 9), .cvU 207 2 (.t 8), none⟩,
 ⟨(some 10), .xtn 1 [(.t 9)], none⟩,
 ⟨(some 11), .cvU 207 2 (.t 10), none⟩,
 ⟨(some 12), .nck (.t 7), none⟩,
 ⟨(some 13), .fa 0 (.t 12), none⟩,
 ⟨none, .st 1 (.t 13) (.t 11), none⟩])
 (.seq (.reg [⟨(some 14), .mv (.t 0), none⟩,
 ⟨(some 15), .nck (.t 14), none⟩,
 ⟨(some 16), .fa 0 (.t 15), none⟩,
 ⟨(some 17), .ld false 1 (.t 16), none⟩,
 ⟨(some 18), .mv (.t 0), none⟩,
 ⟨(some 19), .eq .ptr true (.t 17) (.t 18), none⟩])
 (.cond (.t 19)
 .bad
 .skip)))) }
def c_walk_walk : Fun := { cin := [.id, .id, .id], cout := [(.sl 1 .id), .id, .id], ntmps := 34, keep := false, res := [(6, none), (7, none), (8, none)], body :=
 (.seq (.reg [⟨(some 6), .mv (.c .nsl), none⟩,
 ⟨(some 7), .mv (.c (.i .u8 0)), none⟩,
 ⟨(some 8), .mv (.c (.i .i64 0)), none⟩])
 (.seq (.seq (.reg [⟨(some 13), .mv (.t 0), none⟩,
 ⟨(some 14), .eq .ifc false (.t 13) (.c .ni), none⟩])
 (.cond (.t 14)
 (.seq (.reg [⟨(some 6), .mv (.c .nsl), none⟩,
 ⟨(some 7), .mv (.c (.i .u8 0)), none⟩,
 ⟨(some 8), .mv (.c (.i .i64 2)), none⟩])
 .ret)
 .skip))
 (.seq (.reg [⟨(some 15), .mv (.t 0), none⟩,
 ⟨(some 16), .mv (.t 1), none⟩,
 ⟨(some 17), .call f_path_Steps [(.t 16)], none⟩,
 ⟨(some 18), .mv (.t 1), none⟩,
 ⟨(some 19), .call f_path_Dir [(.t 18)], none⟩,
 ⟨(some 20), .mv (.t 2), none⟩,
 ⟨(some 21), .build [.ni, .nsl, .nsl, (.b false), (.b false), (.i .i64 0)] [(0, 1, (.t 15)), (2, 1, (.t 17)), (3, 1, (.t 19)), (4, 1, (.t 20))], none⟩,
 ⟨(some 22), .box 262 6 (.t 21), none⟩,
 ⟨(some 9), .mv (.t 22), none⟩])
 (.seq (.reg [⟨(some 24), .mv (.t 9), none⟩,
 ⟨(some 25), .call f_walk_walker_run [(.t 24)], none⟩,
 ⟨(some 23), .mv (.t 25), none⟩,
 ⟨(some 26), .ext (.t 23) 0, none⟩,
 ⟨(some 27), .ext (.t 23) 1, none⟩,
 ⟨(some 28), .ext (.t 23) 2, none⟩,
 ⟨(some 10), .mv (.t 26), none⟩,
 ⟨(some 11), .mv (.t 27), none⟩,
 ⟨(some 12), .mv (.t 28), none⟩])
 (.seq (.reg [⟨(some 29), .bsl 1 [], none⟩,
 ⟨(some 30), .mv (.t 10), none⟩,
 ⟨(some 31), .app 1 9 (.t 29) (.t 30), none⟩,
 ⟨(some 32), .mv (.t 11), none⟩,
 ⟨(some 33), .mv (.t 12), none⟩,
 ⟨(some 6), .mv (.t 31), none⟩,
 ⟨(some 7), .mv (.t 32), none⟩,
 ⟨(some 8), .mv (.t 33), none⟩])
 .ret))))) }
def c_prim_remove : Fun := { cin := [.id, (.sl 1 .id), .id], cout := [.id], ntmps := 12, keep := false, res := [(6, none)], body :=
 (.seq (.reg [⟨(some 3), .box 147 1 (.t 0), none⟩,
 ⟨(some 4), .box 26 1 (.t 1), none⟩,
 ⟨(some 5), .box 235 1 (.t 2), none⟩,
 ⟨(some 6), .mv (.c (.i .i64 0)), none⟩])
 (.seq (.reg [⟨(some 7), .ld false 1 (.t 3), none⟩,
 ⟨(some 8), .mkf f_prim_remove_1 [(.t 3), (.t 4), (.t 5)], none⟩,
 ⟨(some 9), .ld false 1 (.t 4), none⟩,
 ⟨(some 10), .bsl 1 [(.t 9)], none⟩,
 ⟨(some 11), .call f_prim_at [(.t 7), (.t 8), (.t 10)], none⟩,
 ⟨(some 6), .mv (.t 11), none⟩])
 .ret)) }
def c_prim_RemoveDir_1 : Fun := { cin := [.id], cout := [.id], ntmps := 18, keep := false, res := [(4, none)], body :=
 (.seq (.reg [⟨(some 4), .mv (.c (.i .i64 0)), none⟩])
 (.seq (.blk 0 (.seq (.reg [⟨(some 6), .mv (.t 0), none⟩,
 ⟨(some 7), .bin .neq (.t 6) (.c (.i .u8 2)), none⟩,
 ⟨(some 5), .mv (.t 7), none⟩])
 (.cond (.t 5)
 (.seq (.reg [⟨(some 4), .mv (.c (.i .i64 55)), none⟩])
 .ret)
 (.seq (.reg [⟨(some 9), .ld false 1 (.t 1), none⟩,
 ⟨(some 10), .len 1 (.t 9), none⟩,
 ⟨(some 11), .bin .eql (.t 10) (.c (.i .i64 0)), none⟩,
 ⟨(some 12), .mv (.t 11), none⟩,
 ⟨(some 13), .ld false 1 (.t 2), (some (12, false))⟩,
 ⟨(some 14), .ld false 1 (.t 1), (some (12, false))⟩,
 ⟨(some 15), .inv [(108, f_ftree_Tree_Empty)] (.t 13) [(.t 14)], (some (12, false))⟩,
 ⟨(some 16), .un .not (.t 15), (some (12, false))⟩,
 ⟨(some 17), .pick (.t 12) (.c (.b true)) (.t 16), none⟩,
 ⟨(some 8), .mv (.t 17), none⟩])
 (.cond (.t 8)
 (.seq (.reg [⟨(some 4), .mv (.c (.i .i64 57)), none⟩])
 .ret)
 .skip)))))
 (.seq (.reg [⟨(some 4), .mv (.c (.i .i64 0)), none⟩])
 .ret))) }
def c_strings_LastIndexByte : Fun := { cin := [.id, .id], cout := [.id], ntmps := 8, keep := false, res := [(4, none)], body :=
 (.seq (.reg [⟨(some 4), .mv (.c (.i .i64 0)), none⟩])
 (.seq (.reg [⟨(some 5), .mv (.t 0), none⟩,
 ⟨(some 6), .mv (.t 1), none⟩,
 ⟨(some 7), .call f_internal_bytealg_LastIndexByteString [(.t 5), (.t 6)], none⟩,
 ⟨(some 4), .mv (.t 7), none⟩])
 .ret)) }
def c_prim_at : Fun := { cin := [.id, .id, (.sl 1 (.sl 1 .id))], cout := [.id], ntmps := 24, keep := false, res := [(6, none)], body :=
 (.seq (.reg [⟨(some 6), .mv (.c (.i .i64 0)), none⟩])
 (.seq (.seq (.reg [⟨(some 9), .mv (.t 0), none⟩,
 ⟨(some 10), .eq .ifc false (.t 9) (.c .ni), none⟩])
 (.cond (.t 10)
 (.seq (.reg [⟨(some 6), .mv (.c (.i .i64 2)), none⟩])
 .ret)
 .skip))
 (.seq (.seq (.reg [⟨(some 11), .mv (.t 2), none⟩,
 ⟨(some 12), .len 1 (.t 11), none⟩,
 ⟨(some 13), .mv (.c (.i .i64 0)), none⟩])
 (.blk 0 (.loop (.seq (.reg [⟨(some 14), .bin .lss (.t 13) (.t 12), none⟩])
 (.seq (.cond (.t 14)
 .skip
 (.exit 0))
 (.seq (.blk 1 (.seq (.reg [⟨(some 15), .ia 1 (.t 11) (.t 13), none⟩,
 ⟨(some 16), .ld false 1 (.t 15), none⟩,
 ⟨(some 8), .mv (.t 16), none⟩])
 (.seq (.reg [⟨(some 17), .mv (.t 0), none⟩,
 ⟨(some 18), .mv (.t 8), none⟩,
 ⟨(some 19), .call f_prim_taken [(.t 17), (.t 18)], none⟩,
 ⟨(some 20), .un .not (.t 19), none⟩])
 (.cond (.t 20)
 (.seq (.reg [⟨(some 6), .mv (.c (.i .i64 5)), none⟩])
 .ret)
 .skip))))
 (.reg [⟨(some 21), .bin .add (.t 13) (.c (.i .i64 1)), none⟩,
 ⟨(some 13), .mv (.t 21), none⟩])))))))
 (.seq (.reg [⟨(some 22), .mv (.t 1), none⟩,
 ⟨(some 23), .callX (.t 22) [], none⟩,
 ⟨(some 6), .mv (.t 23), none⟩])
 .ret)))) }
def c_prim_Touch_1 : Fun := { cin := [], cout := [.id], ntmps := 14, keep := false, res := [(2, none)], body :=
 (.seq (.reg [⟨(some 2), .mv (.c (.i .i64 0)), none⟩])
 (.seq (.seq (.reg [⟨(some 3), .ld false 1 (.t 0), none⟩,
 ⟨(some 4), .ld false 1 (.t 1), none⟩,
 ⟨(some 5), .inv [(17, f_internal_abi_Type_Kind), (108, f_ftree_Tree_Kind)] (.t 3) [(.t 4)], none⟩])
 (.blk 0 (.seq (.reg [⟨(some 7), .bin .eql (.t 5) (.c (.i .u8 3)), none⟩,
 ⟨(some 6), .mv (.t 7), none⟩])
 (.cond (.t 6)
 (.seq (.reg [⟨(some 2), .mv (.c (.i .i64 5)), none⟩])
 .ret)
 (.seq (.reg [⟨(some 9), .bin .eql (.t 5) (.c (.i .u8 0)), none⟩,
 ⟨(some 8), .mv (.t 9), none⟩])
 (.cond (.t 8)
 (.reg [⟨(some 10), .ld false 1 (.t 0), none⟩,
 ⟨(some 11), .ld false 1 (.t 1), none⟩,
 ⟨(some 12), .build [(.i .u8 0), (.s []), .nsl, .nsl] [(0, 1, (.c (.i .u8 1)))], none⟩,
 ⟨(some 13), .inv [(108, f_ftree_Tree_Put)] (.t 10) [(.t 11), (.t 12)], none⟩])
 .skip))))))
 (.seq (.reg [⟨(some 2), .mv (.c (.i .i64 0)), none⟩])
 .ret))) }
def c_prim_Unlink_1 : Fun := { cin := [.id], cout := [.id], ntmps := 5, keep := false, res := [(2, none)], body :=
 (.seq (.reg [⟨(some 2), .mv (.c (.i .i64 0)), none⟩])
 (.seq (.seq (.reg [⟨(some 3), .mv (.t 0), none⟩,
 ⟨(some 4), .bin .eql (.t 3) (.c (.i .u8 2)), none⟩])
 (.cond (.t 4)
 (.seq (.reg [⟨(some 2), .mv (.c (.i .i64 55)), none⟩])
 .ret)
 .skip))
 (.seq (.reg [⟨(some 2), .mv (.c (.i .i64 0)), none⟩])
 .ret))) }
def c_prim_RemoveAll_1 : Fun := { cin := [.id], cout := [.id], ntmps := 7, keep := false, res := [(3, none)], body :=
 (.seq (.reg [⟨(some 3), .mv (.c (.i .i64 0)), none⟩])
 (.seq (.seq (.reg [⟨(some 4), .ld false 1 (.t 1), none⟩,
 ⟨(some 5), .len 1 (.t 4), none⟩,
 ⟨(some 6), .bin .eql (.t 5) (.c (.i .i64 0)), none⟩])
 (.cond (.t 6)
 (.seq (.reg [⟨(some 3), .mv (.c (.i .i64 57)), none⟩])
 .ret)
 .skip))
 (.seq (.reg [⟨(some 3), .mv (.c (.i .i64 0)), none⟩])
 .ret))) }
def c_strings_splitSeq : Fun := { cin := [.id, .id, .id], cout := [.id], ntmps := 8, keep := false, res := [(6, none)], body :=
 (.seq (.reg [⟨(some 3), .box 9 1 (.t 0), none⟩,
 ⟨(some 4), .box 9 1 (.t 1), none⟩,
 ⟨(some 5), .box 3 1 (.t 2), none⟩,
 ⟨(some 6), .mv (.c .nf), none⟩])
 (.seq (.reg [⟨(some 7), .mkf f_strings_splitSeq_1 [(.t 4), (.t 3), (.t 5)], none⟩,
 ⟨(some 6), .mv (.t 7), none⟩])
 .ret)) }
def c_strings_IndexRune : Fun := { cin := [.id, .id], cout := [.id], ntmps := 187, keep := false, res := [(4, none)], body :=
 (.seq (.reg [⟨(some 4), .mv (.c (.i .i64 0)), none⟩])
 (.blk 0 (.seq (.reg [⟨(some 161), .mv (.t 1), none⟩,
 ⟨(some 162), .bin .leq (.c (.i .i32 0)) (.t 161), none⟩,
 ⟨(some 163), .mv (.t 162), none⟩,
 ⟨(some 164), .mv (.t 1), (some (163, true))⟩,
 ⟨(some 165), .bin .lss (.t 164) (.c (.i .i32 128)), (some (163, true))⟩,
 ⟨(some 166), .pick (.t 163) (.t 165) (.c (.b false)), none⟩,
 ⟨(some 160), .mv (.t 166), none⟩])
 (.cond (.t 160)
 (.seq (.reg [⟨(some 167), .mv (.t 0), none⟩,
 ⟨(some 168), .mv (.t 1), none⟩,
 ⟨(some 169), .cvI .u8 (.t 168), none⟩,
 ⟨(some 170), .call f_strings_IndexByte [(.t 167), (.t 169)], none⟩,
 ⟨(some 4), .mv (.t 170), none⟩])
 .ret)
 (.seq (.reg [⟨(some 172), .mv (.t 1), none⟩,
 ⟨(some 173), .bin .eql (.t 172) (.c (.i .i32 65533)), none⟩,
 ⟨(some 171), .mv (.t 173), none⟩])
 (.cond (.t 171)
 (.seq (.seq (.reg [⟨(some 174), .mv (.t 0), none⟩,
 ⟨(some 175), .siter (.t 174), none⟩])
 (.blk 9 (.loop (.seq (.reg [⟨(some 176), .snext (.t 175), none⟩,
 ⟨(some 177), .ext (.t 176) 0, none⟩])
 (.seq (.cond (.t 177)
 .skip
 (.exit 9))
 (.blk 10 (.seq (.reg [⟨(some 178), .ext (.t 176) 1, none⟩,
 ⟨(some 179), .ext (.t 176) 2, none⟩,
 ⟨(some 5), .mv (.t 178), none⟩,
 ⟨(some 6), .mv (.t 179), none⟩])
 (.seq (.reg [⟨(some 180), .mv (.t 6), none⟩,
 ⟨(some 181), .bin .eql (.t 180) (.c (.i .i32 65533)), none⟩])
 (.cond (.t 181)
 (.seq (.reg [⟨(some 182), .mv (.t 5), none⟩,
 ⟨(some 4), .mv (.t 182), none⟩])
 .ret)
 .skip)))))))))
 (.seq (.reg [⟨(some 4), .mv (.c (.i .i64 (-1))), none⟩])
 .ret))
 (.seq (.reg [⟨(some 184), .mv (.t 1), none⟩,
 ⟨(some 185), .call f_unicode_utf8_ValidRune [(.t 184)], none⟩,
 ⟨(some 186), .un .not (.t 185), none⟩,
 ⟨(some 183), .mv (.t 186), none⟩])
 (.cond (.t 183)
 (.seq (.reg [⟨(some 4), .mv (.c (.i .i64 (-1))), none⟩])
 .ret)
 .bad)))))))) }
def c_strings_shouldUseASCIISet : Fun := { cin := [.id], cout := [.id], ntmps := 5, keep := false, res := [(2, none)], body :=
 (.seq (.reg [⟨(some 2), .mv (.c (.b false)), none⟩])
 (.seq (.reg [⟨(some 3), .mv (.t 0), none⟩,
 ⟨(some 4), .bin .gtr (.t 3) (.c (.i .i64 8)), none⟩,
 ⟨(some 2), .mv (.t 4), none⟩])
 .ret)) }
def c_strings_makeASCIISet : Fun := { cin := [.id], cout := [(.agg [.id, .id, .id, .id, .id, .id, .id, .id, .id, .id, .id, .id, .id, .id, .id, .id, .id, .id, .id, .id, .id, .id, .id, .id, .id, .id, .id, .id, .id, .id, .id, .id, .id, .id, .id, .id, .id, .id, .id, .id, .id, .id, .id, .id, .id, .id, .id, .id, .id, .id, .id, .id, .id, .id, .id, .id, .id, .id, .id, .id, .id, .id, .id, .id, .id, .id, .id, .id, .id, .id, .id, .id, .id, .id, .id, .id, .id, .id, .id, .id, .id, .id, .id, .id, .id, .id, .id, .id, .id, .id, .id, .id, .id, .id, .id, .id, .id, .id, .id, .id, .id, .id, .id, .id, .id, .id, .id, .id, .id, .id, .id, .id, .id, .id, .id, .id, .id, .id, .id, .id, .id, .id, .id, .id, .id, .id, .id, .id, .id, .id, .id, .id, .id, .id, .id, .id, .id, .id, .id, .id, .id, .id, .id, .id, .id, .id, .id, .id, .id, .id, .id, .id, .id, .id, .id, .id, .id, .id, .id, .id, .id, .id, .id, .id, .id, .id, .id, .id, .id, .id, .id, .id, .id, .id, .id, .id, .id, .id, .id, .id, .id, .id, .id, .id, .id, .id, .id, .id, .id, .id, .id, .id, .id, .id, .id, .id, .id, .id, .id, .id, .id, .id, .id, .id, .id, .id, .id, .id, .id, .id, .id, .id, .id, .id, .id, .id, .id, .id, .id, .id, .id, .id, .id, .id, .id, .id, .id, .id, .id, .id, .id, .id, .id, .id, .id, .id, .id, .id, .id, .id, .id, .id, .id, .id, .id, .id, .id, .id, .id, .id, .id, .id, .id, .id, .id, .id]), .id], ntmps := 21, keep := false, res := [(2, some (true, 256)), (3, none)], body :=
 (.seq (.reg [⟨(some 2), .alloc 245 [(.b false), (.b false), (.b false), (.b false), (.b false), (.b false), (.b false), (.b false), (.b false), (.b false), (.b false), (.b false), (.b false), (.b false), (.b false), (.b false), (.b false), (.b false), (.b false), (.b false), (.b false), (.b false), (.b false), (.b false), (.b false), (.b false), (.b false), (.b false), (.b false), (.b false), (.b false), (.b false), (.b false), (.b false), (.b false), (.b false), (.b false), (.b false), (.b false), (.b false), (.b false), (.b false), (.b false), (.b false), (.b false), (.b false), (.b false), (.b false), (.b false), (.b false), (.b false), (.b false), (.b false), (.b false), (.b false), (.b false), (.b false), (.b false), (.b false), (.b false), (.b false), (.b false), (.b false), (.b false), (.b false), (.b false), (.b false), (.b false), (.b false), (.b false), (.b false), (.b false), (.b false), (.b false), (.b false), (.b false), (.b false), (.b false), (.b false), (.b false), (.b false), (.b false), (.b false), (.b false), (.b false), (.b false), (.b false), (.b false), (.b false), (.b false), (.b false), (.b false), (.b false), (.b false), (.b false), (.b false), (.b false), (.b false), (.b false), (.b false), (.b false), (.b false), (.b false), (.b false), (.b false), (.b false), (.b false), (.b false), (.b false), (.b false), (.b false), (.b false), (.b false), (.b false), (.b false), (.b false), (.b false), (.b false), (.b false), (.b false), (.b false), (.b false), (.b false), (.b false), (.b false), (.b false), (.b false), (.b false), (.b false), (.b false), (.b false), (.b false), (.b false), (.b false), (.b false), (.b false), (.b false), (.b false), (.b false), (.b false), (.b false), (.b false), (.b false), (.b false), (.b false), (.b false), (.b false), (.b false), (.b false), (.b false), (.b false), (.b false), (.b false), (.b false), (.b false), (.b false), (.b false), (.b false), (.b false), (.b false), (.b false), (.b false), (.b false), (.b false), (.b false), (.b false), (.b false), (.b false), (.b false), (.b false), (.b false), (.b false), (.b false), (.b false), (.b false), (.b false), (.b false), (.b false), (.b false), (.b false), (.b false), (.b false), (.b false), (.b false), (.b false), (.b false), (.b false), (.b false), (.b false), (.b false), (.b false), (.b false), (.b false), (.b false), (.b false), (.b false), (.b false), (.b false), (.b false), (.b false), (.b false), (.b false), (.b false), (.b false), (.b false), (.b false), (.b false), (.b false), (.b false), (.b false), (.b false), (.b false), (.b false), (.b false), (.b false), (.b false), (.b false), (.b false), (.b false), (.b false), (.b false), (.b false), (.b false), (.b false), (.b false), (.b false), (.b false), (.b false), (.b false), (.b false), (.b false), (.b false), (.b false), (.b false), (.b false), (.b false), (.b false), (.b false), (.b false), (.b false), (.b false), (.b false), (.b false), (.b false), (.b false), (.b false), (.b false), (.b false), (.b false), (.b false), (.b false), (.b false), (.b false), (.b false), (.b false), (.b false)], none⟩,
 ⟨(some 3), .mv (.c (.b false)), none⟩])
 (.seq (.seq (.reg [⟨(some 4), .mv (.c (.i .i64 0)), none⟩])
 (.blk 0 (.loop (.seq (.seq (.reg [⟨(some 6), .mv (.t 4), none⟩,
 ⟨(some 7), .mv (.t 0), none⟩,
 ⟨(some 8), .len 0 (.t 7), none⟩,
 ⟨(some 9), .bin .lss (.t 6) (.t 8), none⟩])
 (.cond (.t 9)
 .skip
 (.exit 0)))
 (.seq (.blk 1 (.seq (.reg [⟨(some 12), .mv (.t 0), none⟩,
 ⟨(some 13), .mv (.t 4), none⟩,
 ⟨(some 14), .ixS (.t 12) (.t 13), none⟩,
 ⟨(some 5), .mv (.t 14), none⟩])
 (.seq (.seq (.reg [⟨(some 15), .mv (.t 5), none⟩,
 ⟨(some 16), .bin .geq (.t 15) (.c (.i .u8 128)), none⟩])
 (.cond (.t 16)
 (.seq (.reg [⟨(some 17), .ld true 256 (.t 2), none⟩,
 ⟨none, .st 256 (.t 2) (.t 17), none⟩,
 ⟨(some 3), .mv (.c (.b false)), none⟩])
 .ret)
 .skip))
 (.reg [⟨(some 18), .mv (.t 5), none⟩,
 ⟨(some 19), .iaA 256 1 (.t 2) (.t 18), none⟩,
 ⟨none, .st 1 (.t 19) (.c (.b true)), none⟩]))))
 (.reg [⟨(some 10), .mv (.t 4), none⟩,
 ⟨(some 11), .bin .add (.t 10) (.c (.i .i64 1)), none⟩,
 ⟨(some 4), .mv (.t 11), none⟩]))))))
 (.seq (.reg [⟨(some 20), .ld true 256 (.t 2), none⟩,
 ⟨none, .st 256 (.t 2) (.t 20), none⟩,
 ⟨(some 3), .mv (.c (.b true)), none⟩])
 .ret))) }
def c_strings_asciiSet_contains : Fun := { cin := [.id, .id], cout := [.id], ntmps := 10, keep := false, res := [(4, none)], body :=
 (.seq (.reg [⟨(some 4), .mv (.c (.b false)), none⟩])
 (.seq (.reg [⟨(some 5), .mv (.t 0), none⟩,
 ⟨(some 6), .mv (.t 1), none⟩,
 ⟨(some 7), .nck (.t 5), none⟩,
 ⟨(some 8), .iaA 256 1 (.t 7) (.t 6), none⟩,
 ⟨(some 9), .ld false 1 (.t 8), none⟩,
 ⟨(some 4), .mv (.t 9), none⟩])
 .ret)) }
def c_prim_put_1 : Fun := { cin := [], cout := [.id], ntmps := 17, keep := false, res := [(3, none)], body :=
 (.seq (.reg [⟨(some 3), .mv (.c (.i .i64 0)), none⟩])
 (.seq (.blk 0 (.seq (.reg [⟨(some 5), .ld true 4 (.t 0), none⟩,
 ⟨(some 6), .call f_ftree_Well [(.t 5)], none⟩,
 ⟨(some 7), .un .not (.t 6), none⟩,
 ⟨(some 4), .mv (.t 7), none⟩])
 (.cond (.t 4)
 (.seq (.reg [⟨(some 3), .mv (.c (.i .i64 4)), none⟩])
 .ret)
 (.seq (.reg [⟨(some 9), .ld false 1 (.t 1), none⟩,
 ⟨(some 10), .ld false 1 (.t 2), none⟩,
 ⟨(some 11), .inv [(17, f_internal_abi_Type_Kind), (108, f_ftree_Tree_Kind)] (.t 9) [(.t 10)], none⟩,
 ⟨(some 12), .bin .neq (.t 11) (.c (.i .u8 0)), none⟩,
 ⟨(some 8), .mv (.t 12), none⟩])
 (.cond (.t 8)
 (.seq (.reg [⟨(some 3), .mv (.c (.i .i64 6)), none⟩])
 .ret)
 .skip)))))
 (.seq (.reg [⟨(some 13), .ld false 1 (.t 1), none⟩,
 ⟨(some 14), .ld false 1 (.t 2), none⟩,
 ⟨(some 15), .ld true 4 (.t 0), none⟩,
 ⟨(some 16), .inv [(108, f_ftree_Tree_Put)] (.t 13) [(.t 14), (.t 15)], none⟩])
 (.seq (.reg [⟨(some 3), .mv (.c (.i .i64 0)), none⟩])
 .ret)))) }
def c_walk_walker_run : Fun := { cin := [.id], cout := [(.sl 1 .id), .id, .id], ntmps := 66, keep := false, res := [(2, none), (3, none), (4, none)], body :=
 (.seq (.reg [⟨(some 2), .mv (.c .nsl), none⟩,
 ⟨(some 3), .mv (.c (.i .u8 0)), none⟩,
 ⟨(some 4), .mv (.c (.i .i64 0)), none⟩])
 (.seq (.blk 0 (.loop (.seq (.seq (.reg [⟨(some 9), .mv (.t 0), none⟩,
 ⟨(some 10), .nck (.t 9), none⟩,
 ⟨(some 11), .fa 2 (.t 10), none⟩,
 ⟨(some 12), .ld false 1 (.t 11), none⟩,
 ⟨(some 13), .len 1 (.t 12), none⟩,
 ⟨(some 14), .bin .gtr (.t 13) (.c (.i .i64 0)), none⟩])
 (.cond (.t 14)
 .skip
 (.exit 0)))
 (.blk 1 (.seq (.reg [⟨(some 15), .mv (.t 0), none⟩,
 ⟨(some 16), .nck (.t 15), none⟩,
 ⟨(some 17), .fa 2 (.t 16), none⟩,
 ⟨(some 18), .ld false 1 (.t 17), none⟩,
 ⟨(some 19), .ia 1 (.t 18) (.c (.i .i64 0)), none⟩,
 ⟨(some 20), .ld false 1 (.t 19), none⟩,
 ⟨(some 5), .mv (.t 20), none⟩])
 (.seq (.reg [⟨(some 21), .mv (.t 0), none⟩,
 ⟨(some 22), .mv (.t 0), none⟩,
 ⟨(some 23), .nck (.t 22), none⟩,
 ⟨(some 24), .fa 2 (.t 23), none⟩,
 ⟨(some 25), .ld false 1 (.t 24), none⟩,
 ⟨(some 26), .slc false 1 (.t 25) (some (.c (.i .i64 1))) none none, none⟩,
 ⟨(some 27), .nck (.t 21), none⟩,
 ⟨(some 28), .fa 2 (.t 27), none⟩,
 ⟨none, .st 1 (.t 28) (.t 26), none⟩])
 (.seq (.seq (.reg [⟨(some 29), .mv (.t 5), none⟩,
 ⟨(some 30), .bin .eql (.t 29) (.c (.s [46, 46])), none⟩])
 (.cond (.t 30)
 (.seq (.regD [⟨(some 31), .mv (.t 0), none⟩,
 ⟨(some 32), .mv (.t 0), none⟩,
 ⟨(some 33), .nck (.t 32), none⟩,
 ⟨(some 34), .fa 1 (.t 33), none⟩,
 ⟨(some 35), .ld false 1 (.t 34), none⟩,
 ⟨(some 36), .mv (.t 0), none⟩,
 ⟨(some 37), .nck (.t 36), none⟩,
 ⟨(some 38), .fa 1 (.t 37), none⟩,
 ⟨(some 39), .ld false 1 (.t 38), none⟩,
 ⟨(some 40), .len 1 (.t 39), none⟩,
 ⟨(some 41), .bin .sub (.t 40) (.c (.i .i64 1)), none⟩,
 ⟨(some 42), .mm true (.c (.i .i64 0)) (.t 41), none⟩,
 ⟨(some 43), .slc true 1 (.t 35) none (some (.t 42)) none, none⟩,
 ⟨(some 44), .nck (.t 31), none⟩,
 ⟨(some 45), .fa 1 (.t 44), none⟩,
 ⟨none, .st 1 (.t 45) (.t 43), none⟩] [])
 (.exit 1))
 .skip))
 (.seq (.reg [⟨(some 47), .mv (.t 0), none⟩,
 ⟨(some 48), .mv (.t 5), none⟩,
 ⟨(some 49), .call f_walk_walker_name [(.t 47), (.t 48)], none⟩,
 ⟨(some 46), .mv (.t 49), none⟩,
 ⟨(some 50), .ext (.t 46) 0, none⟩,
 ⟨(some 51), .ext (.t 46) 1, none⟩,
 ⟨(some 52), .ext (.t 46) 2, none⟩,
 ⟨(some 6), .mv (.t 50), none⟩,
 ⟨(some 7), .mv (.t 51), none⟩,
 ⟨(some 8), .mv (.t 52), none⟩])
 (.seq (.seq (.reg [⟨(some 53), .mv (.t 8), none⟩,
 ⟨(some 54), .bin .neq (.t 53) (.c (.i .i64 0)), none⟩])
 (.cond (.t 54)
 (.seq (.reg [⟨(some 55), .mv (.t 8), none⟩,
 ⟨(some 2), .mv (.c .nsl), none⟩,
 ⟨(some 3), .mv (.c (.i .u8 0)), none⟩,
 ⟨(some 4), .mv (.t 55), none⟩])
 .ret)
 .skip))
 (.seq (.reg [⟨(some 56), .mv (.t 7), none⟩])
 (.cond (.t 56)
 (.seq (.reg [⟨(some 57), .mv (.t 0), none⟩,
 ⟨(some 58), .nck (.t 57), none⟩,
 ⟨(some 59), .fa 1 (.t 58), none⟩,
 ⟨(some 60), .ld false 1 (.t 59), none⟩,
 ⟨(some 61), .mv (.t 6), none⟩,
 ⟨(some 2), .mv (.t 60), none⟩,
 ⟨(some 3), .mv (.t 61), none⟩,
 ⟨(some 4), .mv (.c (.i .i64 0)), none⟩])
 .ret)
 .skip)))))))))))
 (.seq (.reg [⟨(some 62), .mv (.t 0), none⟩,
 ⟨(some 63), .nck (.t 62), none⟩,
 ⟨(some 64), .fa 1 (.t 63), none⟩,
 ⟨(some 65), .ld false 1 (.t 64), none⟩,
 ⟨(some 2), .mv (.t 65), none⟩,
 ⟨(some 3), .mv (.c (.i .u8 2)), none⟩,
 ⟨(some 4), .mv (.c (.i .i64 0)), none⟩])
 .ret))) }
def c_prim_remove_1 : Fun := { cin := [], cout := [.id], ntmps := 20, keep := false, res := [(3, none)], body :=
 (.seq (.reg [⟨(some 3), .mv (.c (.i .i64 0)), none⟩])
 (.seq (.reg [⟨(some 6), .ld false 1 (.t 0), none⟩,
 ⟨(some 7), .ld false 1 (.t 1), none⟩,
 ⟨(some 8), .inv [(17, f_internal_abi_Type_Kind), (108, f_ftree_Tree_Kind)] (.t 6) [(.t 7)], none⟩,
 ⟨(some 4), .mv (.t 8), none⟩])
 (.seq (.seq (.reg [⟨(some 9), .mv (.t 4), none⟩,
 ⟨(some 10), .bin .eql (.t 9) (.c (.i .u8 0)), none⟩])
 (.cond (.t 10)
 (.seq (.reg [⟨(some 3), .mv (.c (.i .i64 5)), none⟩])
 .ret)
 .skip))
 (.seq (.seq (.reg [⟨(some 11), .ld false 1 (.t 2), none⟩,
 ⟨(some 12), .mv (.t 4), none⟩,
 ⟨(some 13), .callX (.t 11) [(.t 12)], none⟩,
 ⟨(some 5), .mv (.t 13), none⟩])
 (.seq (.reg [⟨(some 14), .mv (.t 5), none⟩,
 ⟨(some 15), .bin .neq (.t 14) (.c (.i .i64 0)), none⟩])
 (.cond (.t 15)
 (.seq (.reg [⟨(some 16), .mv (.t 5), none⟩,
 ⟨(some 3), .mv (.t 16), none⟩])
 .ret)
 .skip)))
 (.seq (.reg [⟨(some 17), .ld false 1 (.t 0), none⟩,
 ⟨(some 18), .ld false 1 (.t 1), none⟩,
 ⟨(some 19), .inv [(108, f_ftree_Tree_Del)] (.t 17) [(.t 18)], none⟩])
 (.seq (.reg [⟨(some 3), .mv (.c (.i .i64 0)), none⟩])
 .ret)))))) }
def c_internal_bytealg_LastIndexByteString : Fun := { cin := [.id, .id], cout := [.id], ntmps := 19, keep := false, res := [(4, none)], body :=
 (.seq (.reg [⟨(some 4), .mv (.c (.i .i64 0)), none⟩])
 (.seq (.seq (.reg [⟨(some 6), .mv (.t 0), none⟩,
 ⟨(some 7), .len 0 (.t 6), none⟩,
 ⟨(some 8), .bin .sub (.t 7) (.c (.i .i64 1)), none⟩,
 ⟨(some 5), .mv (.t 8), none⟩])
 (.blk 0 (.loop (.seq (.seq (.reg [⟨(some 9), .mv (.t 5), none⟩,
 ⟨(some 10), .bin .geq (.t 9) (.c (.i .i64 0)), none⟩])
 (.cond (.t 10)
 .skip
 (.exit 0)))
 (.seq (.blk 1 (.seq (.reg [⟨(some 13), .mv (.t 0), none⟩,
 ⟨(some 14), .mv (.t 5), none⟩,
 ⟨(some 15), .ixS (.t 13) (.t 14), none⟩,
 ⟨(some 16), .mv (.t 1), none⟩,
 ⟨(some 17), .bin .eql (.t 15) (.t 16), none⟩])
 (.cond (.t 17)
 (.seq (.reg [⟨(some 18), .mv (.t 5), none⟩,
 ⟨(some 4), .mv (.t 18), none⟩])
 .ret)
 .skip)))
 (.reg [⟨(some 11), .mv (.t 5), none⟩,
 ⟨(some 12), .bin .sub (.t 11) (.c (.i .i64 1)), none⟩,
 ⟨(some 5), .mv (.t 12), none⟩]))))))
 (.seq (.reg [⟨(some 4), .mv (.c (.i .i64 (-1))), none⟩])
 .ret))) }
def c_prim_taken : Fun := { cin := [.id, (.sl 1 .id)], cout := [.id], ntmps := 29, keep := false, res := [(4, none)], body :=
 (.seq (.reg [⟨(some 4), .mv (.c (.b false)), none⟩])
 (.seq (.reg [⟨(some 6), .mv (.t 1), none⟩,
 ⟨(some 7), .len 1 (.t 6), none⟩,
 ⟨(some 8), .bin .sub (.t 7) (.c (.i .i64 1)), none⟩,
 ⟨(some 5), .mv (.t 8), none⟩])
 (.seq (.regD [⟨(some 9), .mv (.t 5), none⟩,
 ⟨(some 10), .bin .lss (.t 9) (.c (.i .i64 0)), none⟩,
 ⟨(some 11), .mv (.t 10), none⟩,
 ⟨(some 12), .mv (.t 1), (some (11, false))⟩,
 ⟨(some 13), .mv (.t 5), (some (11, false))⟩,
 ⟨(some 14), .ia 1 (.t 12) (.t 13), (some (11, false))⟩,
 ⟨(some 15), .ld false 1 (.t 14), (some (11, false))⟩,
 ⟨(some 16), .call f_path_Name [(.t 15)], (some (11, false))⟩,
 ⟨(some 17), .mv (.t 16), (some (11, false))⟩,
 ⟨(some 18), .mv (.t 0), (some (17, true))⟩,
 ⟨(some 19), .mv (.t 1), (some (17, true))⟩,
 ⟨(some 20), .mv (.t 5), (some (17, true))⟩,
 ⟨(some 21), .slc false 1 (.t 19) none (some (.t 20)) none, (some (17, true))⟩,
 ⟨(some 22), .mkM [75, 105, 110, 100] (.t 18), (some (17, true))⟩,
 ⟨(some 23), .nckM [75, 105, 110, 100] [(17, f_internal_abi_Type_Kind), (108, f_ftree_Tree_Kind)] (.t 22), (some (17, true))⟩,
 ⟨(some 24), .mv (.t 18), (some (17, true))⟩,
 ⟨(some 25), .inv [(17, f_internal_abi_Type_Kind), (108, f_ftree_Tree_Kind)] (.t 24) [(.t 21)], (some (17, true))⟩,
 ⟨(some 26), .bin .eql (.t 25) (.c (.i .u8 2)), (some (17, true))⟩,
 ⟨(some 27), .pick (.t 17) (.t 26) (.c (.b false)), (some (11, false))⟩,
 ⟨(some 28), .pick (.t 11) (.c (.b true)) (.t 27), none⟩,
 ⟨(some 4), .mv (.t 28), none⟩] [])
 .ret))) }
def c_strings_splitSeq_1 : Fun := { cin := [.id], cout := [], ntmps := 52, keep := false, res := [], body :=
 (.seq (.seq (.reg [⟨(some 9), .ld false 1 (.t 1), none⟩,
 ⟨(some 10), .len 0 (.t 9), none⟩,
 ⟨(some 11), .bin .eql (.t 10) (.c (.i .i64 0)), none⟩])
 (.cond (.t 11)
 (.seq (.blk 0 (.loop (.seq (.seq (.reg [⟨(some 12), .ld false 1 (.t 2), none⟩,
 ⟨(some 13), .len 0 (.t 12), none⟩,
 ⟨(some 14), .bin .gtr (.t 13) (.c (.i .i64 0)), none⟩])
 (.cond (.t 14)
 .skip
 (.exit 0)))
 (.blk 1 (.seq (.reg [⟨(some 16), .ld false 1 (.t 2), none⟩,
 ⟨(some 17), .call f_unicode_utf8_DecodeRuneInString [(.t 16)], none⟩,
 ⟨(some 15), .mv (.t 17), none⟩,
 ⟨(some 18), .ext (.t 15) 0, none⟩,
 ⟨(some 19), .ext (.t 15) 1, none⟩,
 ⟨(some 5), .mv (.t 18), none⟩,
 ⟨(some 6), .mv (.t 19), none⟩])
 (.seq (.seq (.reg [⟨(some 20), .mv (.t 0), none⟩,
 ⟨(some 21), .ld false 1 (.t 2), none⟩,
 ⟨(some 22), .mv (.t 6), none⟩,
 ⟨(some 23), .slS (.t 21) none (some (.t 22)), none⟩,
 ⟨(some 24), .callX (.t 20) [(.t 23)], none⟩,
 ⟨(some 25), .un .not (.t 24), none⟩])
 (.cond (.t 25)
 .ret
 .skip))
 (.reg [⟨(some 26), .ld false 1 (.t 2), none⟩,
 ⟨(some 27), .mv (.t 6), none⟩,
 ⟨(some 28), .slS (.t 26) (some (.t 27)) none, none⟩,
 ⟨none, .st 1 (.t 2) (.t 28), none⟩])))))))
 .ret)
 .skip))
 (.seq (.blk 2 (.loop (.blk 3 (.seq (.reg [⟨(some 29), .ld false 1 (.t 2), none⟩,
 ⟨(some 30), .ld false 1 (.t 1), none⟩,
 ⟨(some 31), .call f_strings_Index [(.t 29), (.t 30)], none⟩,
 ⟨(some 7), .mv (.t 31), none⟩])
 (.seq (.seq (.reg [⟨(some 32), .mv (.t 7), none⟩,
 ⟨(some 33), .bin .lss (.t 32) (.c (.i .i64 0)), none⟩])
 (.cond (.t 33)
 (.exit 2)
 .skip))
 (.seq (.reg [⟨(some 34), .ld false 1 (.t 2), none⟩,
 ⟨(some 35), .mv (.t 7), none⟩,
 ⟨(some 36), .ld false 1 (.t 3), none⟩,
 ⟨(some 37), .bin .add (.t 35) (.t 36), none⟩,
 ⟨(some 38), .slS (.t 34) none (some (.t 37)), none⟩,
 ⟨(some 8), .mv (.t 38), none⟩])
 (.seq (.seq (.reg [⟨(some 39), .mv (.t 0), none⟩,
 ⟨(some 40), .mv (.t 8), none⟩,
 ⟨(some 41), .callX (.t 39) [(.t 40)], none⟩,
 ⟨(some 42), .un .not (.t 41), none⟩])
 (.cond (.t 42)
 .ret
 .skip))
 (.reg [⟨(some 43), .ld false 1 (.t 2), none⟩,
 ⟨(some 44), .mv (.t 7), none⟩,
 ⟨(some 45), .ld false 1 (.t 1), none⟩,
 ⟨(some 46), .len 0 (.t 45), none⟩,
 ⟨(some 47), .bin .add (.t 44) (.t 46), none⟩,
 ⟨(some 48), .slS (.t 43) (some (.t 47)) none, none⟩,
 ⟨none, .st 1 (.t 2) (.t 48), none⟩]))))))))
 (.reg [⟨(some 49), .mv (.t 0), none⟩,
 ⟨(some 50), .ld false 1 (.t 2), none⟩,
 ⟨(some 51), .callX (.t 49) [(.t 50)], none⟩]))) }
def c_unicode_utf8_DecodeRuneInString : Fun := { cin := [.id], cout := [.id, .id], ntmps := 19, keep := false, res := [(2, none), (3, none)], body :=
 (.seq (.reg [⟨(some 2), .mv (.c (.i .i32 0)), none⟩,
 ⟨(some 3), .mv (.c (.i .i64 0)), none⟩])
 (.seq (.seq (.reg [⟨(some 4), .mv (.t 0), none⟩,
 ⟨(some 5), .bin .neq (.t 4) (.c (.s [])), none⟩,
 ⟨(some 6), .mv (.t 5), none⟩,
 ⟨(some 7), .mv (.t 0), (some (6, true))⟩,
 ⟨(some 8), .ixS (.t 7) (.c (.i .i64 0)), (some (6, true))⟩,
 ⟨(some 9), .bin .lss (.t 8) (.c (.i .u8 128)), (some (6, true))⟩,
 ⟨(some 10), .pick (.t 6) (.t 9) (.c (.b false)), none⟩])
 (.cond (.t 10)
 (.seq (.reg [⟨(some 11), .mv (.t 0), none⟩,
 ⟨(some 12), .ixS (.t 11) (.c (.i .i64 0)), none⟩,
 ⟨(some 13), .cvI .i32 (.t 12), none⟩,
 ⟨(some 2), .mv (.t 13), none⟩,
 ⟨(some 3), .mv (.c (.i .i64 1)), none⟩])
 .ret)
 (.reg [⟨(some 15), .mv (.t 0), none⟩,
 ⟨(some 16), .call f_unicode_utf8_decodeRuneInStringSlow [(.t 15)], none⟩,
 ⟨(some 14), .mv (.t 16), none⟩,
 ⟨(some 17), .ext (.t 14) 0, none⟩,
 ⟨(some 18), .ext (.t 14) 1, none⟩,
 ⟨(some 2), .mv (.t 17), none⟩,
 ⟨(some 3), .mv (.t 18), none⟩])))
 .ret)) }
def c_unicode_utf8_ValidRune : Fun := { cin := [.id], cout := [.id], ntmps := 17, keep := false, res := [(2, none)], body :=
 (.seq (.reg [⟨(some 2), .mv (.c (.b false)), none⟩])
 (.seq (.blk 0 (.seq (.reg [⟨(some 4), .mv (.t 0), none⟩,
 ⟨(some 5), .bin .leq (.c (.i .i32 0)) (.t 4), none⟩,
 ⟨(some 6), .mv (.t 5), none⟩,
 ⟨(some 7), .mv (.t 0), (some (6, true))⟩,
 ⟨(some 8), .bin .lss (.t 7) (.c (.i .i32 55296)), (some (6, true))⟩,
 ⟨(some 9), .pick (.t 6) (.t 8) (.c (.b false)), none⟩,
 ⟨(some 3), .mv (.t 9), none⟩])
 (.cond (.t 3)
 (.seq (.reg [⟨(some 2), .mv (.c (.b true)), none⟩])
 .ret)
 (.seq (.reg [⟨(some 11), .mv (.t 0), none⟩,
 ⟨(some 12), .bin .lss (.c (.i .i32 57343)) (.t 11), none⟩,
 ⟨(some 13), .mv (.t 12), none⟩,
 ⟨(some 14), .mv (.t 0), (some (13, true))⟩,
 ⟨(some 15), .bin .leq (.t 14) (.c (.i .i32 1114111)), (some (13, true))⟩,
 ⟨(some 16), .pick (.t 13) (.t 15) (.c (.b false)), none⟩,
 ⟨(some 10), .mv (.t 16), none⟩])
 (.cond (.t 10)
 (.seq (.reg [⟨(some 2), .mv (.c (.b true)), none⟩])
 .ret)
 .skip)))))
 (.seq (.reg [⟨(some 2), .mv (.c (.b false)), none⟩])
 .ret))) }
def c_walk_walker_name : Fun := { cin := [.id, .id], cout := [.id, .id, .id], ntmps := 81, keep := false, res := [(4, none), (5, none), (6, none)], body :=
 (.seq (.reg [⟨(some 4), .mv (.c (.i .u8 0)), none⟩,
 ⟨(some 5), .mv (.c (.b false)), none⟩,
 ⟨(some 6), .mv (.c (.i .i64 0)), none⟩])
 (.seq (.reg [⟨(some 10), .mv (.t 0), none⟩,
 ⟨(some 11), .mv (.t 1), none⟩,
 ⟨(some 12), .call f_walk_walker_below [(.t 10), (.t 11)], none⟩,
 ⟨(some 7), .mv (.t 12), none⟩])
 (.seq (.reg [⟨(some 13), .mv (.t 0), none⟩,
 ⟨(some 14), .nck (.t 13), none⟩,
 ⟨(some 15), .fa 0 (.t 14), none⟩,
 ⟨(some 16), .ld false 1 (.t 15), none⟩,
 ⟨(some 17), .mv (.t 7), none⟩,
 ⟨(some 18), .inv [(17, f_internal_abi_Type_Kind), (108, f_ftree_Tree_Kind)] (.t 16) [(.t 17)], none⟩,
 ⟨(some 8), .mv (.t 18), none⟩])
 (.seq (.reg [⟨(some 19), .mv (.t 0), none⟩,
 ⟨(some 20), .nck (.t 19), none⟩,
 ⟨(some 21), .fa 2 (.t 20), none⟩,
 ⟨(some 22), .ld false 1 (.t 21), none⟩,
 ⟨(some 23), .len 1 (.t 22), none⟩,
 ⟨(some 24), .bin .eql (.t 23) (.c (.i .i64 0)), none⟩,
 ⟨(some 9), .mv (.t 24), none⟩])
 (.seq (.blk 0 (.seq (.reg [⟨(some 26), .mv (.t 8), none⟩,
 ⟨(some 27), .bin .eql (.t 26) (.c (.i .u8 3)), none⟩,
 ⟨(some 28), .mv (.t 27), none⟩,
 ⟨(some 29), .mv (.t 9), (some (28, true))⟩,
 ⟨(some 30), .un .not (.t 29), (some (28, true))⟩,
 ⟨(some 31), .mv (.t 30), (some (28, true))⟩,
 ⟨(some 32), .mv (.t 0), (some (31, false))⟩,
 ⟨(some 33), .nck (.t 32), (some (31, false))⟩,
 ⟨(some 34), .fa 3 (.t 33), (some (31, false))⟩,
 ⟨(some 35), .ld false 1 (.t 34), (some (31, false))⟩,
 ⟨(some 36), .pick (.t 31) (.c (.b true)) (.t 35), (some (28, true))⟩,
 ⟨(some 37), .mv (.t 36), (some (28, true))⟩,
 ⟨(some 38), .mv (.t 0), (some (37, false))⟩,
 ⟨(some 39), .nck (.t 38), (some (37, false))⟩,
 ⟨(some 40), .fa 4 (.t 39), (some (37, false))⟩,
 ⟨(some 41), .ld false 1 (.t 40), (some (37, false))⟩,
 ⟨(some 42), .pick (.t 37) (.c (.b true)) (.t 41), (some (28, true))⟩,
 ⟨(some 43), .pick (.t 28) (.t 42) (.c (.b false)), none⟩,
 ⟨(some 25), .mv (.t 43), none⟩])
 (.cond (.t 25)
 (.seq (.reg [⟨(some 44), .mv (.t 0), none⟩,
 ⟨(some 45), .mv (.t 7), none⟩,
 ⟨(some 46), .call f_walk_walker_follow [(.t 44), (.t 45)], none⟩,
 ⟨(some 4), .mv (.c (.i .u8 0)), none⟩,
 ⟨(some 5), .mv (.c (.b false)), none⟩,
 ⟨(some 6), .mv (.t 46), none⟩])
 .ret)
 (.seq (.reg [⟨(some 48), .mv (.t 8), none⟩,
 ⟨(some 49), .bin .eql (.t 48) (.c (.i .u8 2)), none⟩,
 ⟨(some 47), .mv (.t 49), none⟩])
 (.cond (.t 47)
 (.seq (.reg [⟨(some 50), .mv (.t 0), none⟩,
 ⟨(some 51), .mv (.t 7), none⟩,
 ⟨(some 52), .nck (.t 50), none⟩,
 ⟨(some 53), .fa 1 (.t 52), none⟩,
 ⟨none, .st 1 (.t 53) (.t 51), none⟩])
 (.seq (.reg [⟨(some 54), .mv (.t 8), none⟩,
 ⟨(some 55), .mv (.t 9), none⟩,
 ⟨(some 4), .mv (.t 54), none⟩,
 ⟨(some 5), .mv (.t 55), none⟩,
 ⟨(some 6), .mv (.c (.i .i64 0)), none⟩])
 .ret))
 (.seq (.reg [⟨(some 57), .mv (.t 8), none⟩,
 ⟨(some 58), .bin .eql (.t 57) (.c (.i .u8 1)), none⟩,
 ⟨(some 59), .mv (.t 58), none⟩,
 ⟨(some 60), .mv (.t 9), (some (59, true))⟩,
 ⟨(some 61), .un .not (.t 60), (some (59, true))⟩,
 ⟨(some 62), .mv (.t 61), (some (59, true))⟩,
 ⟨(some 63), .mv (.t 0), (some (62, false))⟩,
 ⟨(some 64), .nck (.t 63), (some (62, false))⟩,
 ⟨(some 65), .fa 3 (.t 64), (some (62, false))⟩,
 ⟨(some 66), .ld false 1 (.t 65), (some (62, false))⟩,
 ⟨(some 67), .pick (.t 62) (.c (.b true)) (.t 66), (some (59, true))⟩,
 ⟨(some 68), .pick (.t 59) (.t 67) (.c (.b false)), none⟩,
 ⟨(some 56), .mv (.t 68), none⟩])
 (.cond (.t 56)
 (.seq (.reg [⟨(some 4), .mv (.c (.i .u8 0)), none⟩,
 ⟨(some 5), .mv (.c (.b false)), none⟩,
 ⟨(some 6), .mv (.c (.i .i64 55)), none⟩])
 .ret)
 (.seq (.reg [⟨(some 70), .mv (.t 8), none⟩,
 ⟨(some 71), .bin .eql (.t 70) (.c (.i .u8 0)), none⟩,
 ⟨(some 72), .mv (.t 71), none⟩,
 ⟨(some 73), .mv (.t 9), (some (72, true))⟩,
 ⟨(some 74), .un .not (.t 73), (some (72, true))⟩,
 ⟨(some 75), .pick (.t 72) (.t 74) (.c (.b false)), none⟩,
 ⟨(some 69), .mv (.t 75), none⟩])
 (.cond (.t 69)
 (.seq (.reg [⟨(some 4), .mv (.c (.i .u8 0)), none⟩,
 ⟨(some 5), .mv (.c (.b false)), none⟩,
 ⟨(some 6), .mv (.c (.i .i64 5)), none⟩])
 .ret)
 .skip)))))))))
 (.seq (.reg [⟨(some 76), .mv (.t 0), none⟩,
 ⟨(some 77), .mv (.t 7), none⟩,
 ⟨(some 78), .nck (.t 76), none⟩,
 ⟨(some 79), .fa 1 (.t 78), none⟩,
 ⟨none, .st 1 (.t 79) (.t 77), none⟩])
 (.seq (.reg [⟨(some 80), .mv (.t 8), none⟩,
 ⟨(some 4), .mv (.t 80), none⟩,
 ⟨(some 5), .mv (.c (.b true)), none⟩,
 ⟨(some 6), .mv (.c (.i .i64 0)), none⟩])
 .ret))))))) }
def c_unicode_utf8_decodeRuneInStringSlow : Fun := { cin := [.id], cout := [.id, .id], ntmps := 117, keep := false, res := [(2, none), (3, none)], body :=
 (.seq (.reg [⟨(some 2), .mv (.c (.i .i32 0)), none⟩,
 ⟨(some 3), .mv (.c (.i .i64 0)), none⟩])
 (.seq (.reg [⟨(some 13), .mv (.t 0), none⟩,
 ⟨(some 14), .len 0 (.t 13), none⟩,
 ⟨(some 4), .mv (.t 14), none⟩])
 (.seq (.seq (.reg [⟨(some 15), .mv (.t 4), none⟩,
 ⟨(some 16), .bin .lss (.t 15) (.c (.i .i64 1)), none⟩])
 (.cond (.t 16)
 (.seq (.reg [⟨(some 2), .mv (.c (.i .i32 65533)), none⟩,
 ⟨(some 3), .mv (.c (.i .i64 0)), none⟩])
 .ret)
 .skip))
 (.seq (.reg [⟨(some 17), .mv (.t 0), none⟩,
 ⟨(some 18), .ixS (.t 17) (.c (.i .i64 0)), none⟩,
 ⟨(some 5), .mv (.t 18), none⟩])
 (.seq (.reg [⟨(some 19), .mv (.t 5), none⟩,
 ⟨(some 20), .bad, none⟩,
 ⟨(some 21), .ld false 1 (.t 20), none⟩,
 ⟨(some 6), .mv (.t 21), none⟩])
 (.seq (.seq (.reg [⟨(some 22), .mv (.t 6), none⟩,
 ⟨(some 23), .bin .geq (.t 22) (.c (.i .u8 240)), none⟩])
 (.cond (.t 23)
 (.seq (.reg [⟨(some 24), .mv (.t 6), none⟩,
 ⟨(some 25), .cvI .i32 (.t 24), none⟩,
 ⟨(some 26), .bin .shl (.t 25) (.c (.i .u64 31)), none⟩,
 ⟨(some 27), .bin .shr (.t 26) (.c (.i .u64 31)), none⟩,
 ⟨(some 7), .mv (.t 27), none⟩])
 (.seq (.reg [⟨(some 28), .mv (.t 0), none⟩,
 ⟨(some 29), .ixS (.t 28) (.c (.i .i64 0)), none⟩,
 ⟨(some 30), .cvI .i32 (.t 29), none⟩,
 ⟨(some 31), .mv (.t 7), none⟩,
 ⟨(some 32), .bin .andNot (.t 30) (.t 31), none⟩,
 ⟨(some 33), .mv (.t 7), none⟩,
 ⟨(some 34), .bin .and (.c (.i .i32 65533)) (.t 33), none⟩,
 ⟨(some 35), .bin .or (.t 32) (.t 34), none⟩,
 ⟨(some 2), .mv (.t 35), none⟩,
 ⟨(some 3), .mv (.c (.i .i64 1)), none⟩])
 .ret))
 .skip))
 (.seq (.reg [⟨(some 36), .mv (.t 6), none⟩,
 ⟨(some 37), .bin .and (.t 36) (.c (.i .u8 7)), none⟩,
 ⟨(some 38), .cvI .i64 (.t 37), none⟩,
 ⟨(some 8), .mv (.t 38), none⟩])
 (.seq (.reg [⟨(some 39), .mv (.t 6), none⟩,
 ⟨(some 40), .bin .shr (.t 39) (.c (.i .u64 4)), none⟩,
 ⟨(some 41), .bad, none⟩,
 ⟨(some 42), .ld true 2 (.t 41), none⟩,
 ⟨(some 9), .alloc 281 [(.i .u8 0), (.i .u8 0)], none⟩,
 ⟨none, .st 2 (.t 9) (.t 42), none⟩])
 (.seq (.seq (.reg [⟨(some 43), .mv (.t 4), none⟩,
 ⟨(some 44), .mv (.t 8), none⟩,
 ⟨(some 45), .bin .lss (.t 43) (.t 44), none⟩])
 (.cond (.t 45)
 (.seq (.reg [⟨(some 2), .mv (.c (.i .i32 65533)), none⟩,
 ⟨(some 3), .mv (.c (.i .i64 1)), none⟩])
 .ret)
 .skip))
 (.seq (.reg [⟨(some 46), .mv (.t 0), none⟩,
 ⟨(some 47), .ixS (.t 46) (.c (.i .i64 1)), none⟩,
 ⟨(some 10), .mv (.t 47), none⟩])
 (.seq (.seq (.reg [⟨(some 48), .mv (.t 10), none⟩,
 ⟨(some 49), .fa 0 (.t 9), none⟩,
 ⟨(some 50), .ld false 1 (.t 49), none⟩,
 ⟨(some 51), .bin .lss (.t 48) (.t 50), none⟩,
 ⟨(some 52), .mv (.t 51), none⟩,
 ⟨(some 53), .fa 1 (.t 9), (some (52, false))⟩,
 ⟨(some 54), .ld false 1 (.t 53), (some (52, false))⟩,
 ⟨(some 55), .mv (.t 10), (some (52, false))⟩,
 ⟨(some 56), .bin .lss (.t 54) (.t 55), (some (52, false))⟩,
 ⟨(some 57), .pick (.t 52) (.c (.b true)) (.t 56), none⟩])
 (.cond (.t 57)
 (.seq (.reg [⟨(some 2), .mv (.c (.i .i32 65533)), none⟩,
 ⟨(some 3), .mv (.c (.i .i64 1)), none⟩])
 .ret)
 .skip))
 (.seq (.seq (.reg [⟨(some 58), .mv (.t 8), none⟩,
 ⟨(some 59), .bin .leq (.t 58) (.c (.i .i64 2)), none⟩])
 (.cond (.t 59)
 (.seq (.reg [⟨(some 60), .mv (.t 5), none⟩,
 ⟨(some 61), .bin .and (.t 60) (.c (.i .u8 31)), none⟩,
 ⟨(some 62), .cvI .i32 (.t 61), none⟩,
 ⟨(some 63), .bin .shl (.t 62) (.c (.i .u64 6)), none⟩,
 ⟨(some 64), .mv (.t 10), none⟩,
 ⟨(some 65), .bin .and (.t 64) (.c (.i .u8 63)), none⟩,
 ⟨(some 66), .cvI .i32 (.t 65), none⟩,
 ⟨(some 67), .bin .or (.t 63) (.t 66), none⟩,
 ⟨(some 2), .mv (.t 67), none⟩,
 ⟨(some 3), .mv (.c (.i .i64 2)), none⟩])
 .ret)
 .skip))
 (.seq (.reg [⟨(some 68), .mv (.t 0), none⟩,
 ⟨(some 69), .ixS (.t 68) (.c (.i .i64 2)), none⟩,
 ⟨(some 11), .mv (.t 69), none⟩])
 (.seq (.seq (.reg [⟨(some 70), .mv (.t 11), none⟩,
 ⟨(some 71), .bin .lss (.t 70) (.c (.i .u8 128)), none⟩,
 ⟨(some 72), .mv (.t 71), none⟩,
 ⟨(some 73), .mv (.t 11), (some (72, false))⟩,
 ⟨(some 74), .bin .lss (.c (.i .u8 191)) (.t 73), (some (72, false))⟩,
 ⟨(some 75), .pick (.t 72) (.c (.b true)) (.t 74), none⟩])
 (.cond (.t 75)
 (.seq (.reg [⟨(some 2), .mv (.c (.i .i32 65533)), none⟩,
 ⟨(some 3), .mv (.c (.i .i64 1)), none⟩])
 .ret)
 .skip))
 (.seq (.seq (.reg [⟨(some 76), .mv (.t 8), none⟩,
 ⟨(some 77), .bin .leq (.t 76) (.c (.i .i64 3)), none⟩])
 (.cond (.t 77)
 (.seq (.reg [⟨(some 78), .mv (.t 5), none⟩,
 ⟨(some 79), .bin .and (.t 78) (.c (.i .u8 15)), none⟩,
 ⟨(some 80), .cvI .i32 (.t 79), none⟩,
 ⟨(some 81), .bin .shl (.t 80) (.c (.i .u64 12)), none⟩,
 ⟨(some 82), .mv (.t 10), none⟩,
 ⟨(some 83), .bin .and (.t 82) (.c (.i .u8 63)), none⟩,
 ⟨(some 84), .cvI .i32 (.t 83), none⟩,
 ⟨(some 85), .bin .shl (.t 84) (.c (.i .u64 6)), none⟩,
 ⟨(some 86), .bin .or (.t 81) (.t 85), none⟩,
 ⟨(some 87), .mv (.t 11), none⟩,
 ⟨(some 88), .bin .and (.t 87) (.c (.i .u8 63)), none⟩,
 ⟨(some 89), .cvI .i32 (.t 88), none⟩,
 ⟨(some 90), .bin .or (.t 86) (.t 89), none⟩,
 ⟨(some 2), .mv (.t 90), none⟩,
 ⟨(some 3), .mv (.c (.i .i64 3)), none⟩])
 .ret)
 .skip))
 (.seq (.reg [⟨(some 91), .mv (.t 0), none⟩,
 ⟨(some 92), .ixS (.t 91) (.c (.i .i64 3)), none⟩,
 ⟨(some 12), .mv (.t 92), none⟩])
 (.seq (.seq (.reg [⟨(some 93), .mv (.t 12), none⟩,
 ⟨(some 94), .bin .lss (.t 93) (.c (.i .u8 128)), none⟩,
 ⟨(some 95), .mv (.t 94), none⟩,
 ⟨(some 96), .mv (.t 12), (some (95, false))⟩,
 ⟨(some 97), .bin .lss (.c (.i .u8 191)) (.t 96), (some (95, false))⟩,
 ⟨(some 98), .pick (.t 95) (.c (.b true)) (.t 97), none⟩])
 (.cond (.t 98)
 (.seq (.reg [⟨(some 2), .mv (.c (.i .i32 65533)), none⟩,
 ⟨(some 3), .mv (.c (.i .i64 1)), none⟩])
 .ret)
 .skip))
 (.seq (.reg [⟨(some 99), .mv (.t 5), none⟩,
 ⟨(some 100), .bin .and (.t 99) (.c (.i .u8 7)), none⟩,
 ⟨(some 101), .cvI .i32 (.t 100), none⟩,
 ⟨(some 102), .bin .shl (.t 101) (.c (.i .u64 18)), none⟩,
 ⟨(some 103), .mv (.t 10), none⟩,
 ⟨(some 104), .bin .and (.t 103) (.c (.i .u8 63)), none⟩,
 ⟨(some 105), .cvI .i32 (.t 104), none⟩,
 ⟨(some 106), .bin .shl (.t 105) (.c (.i .u64 12)), none⟩,
 ⟨(some 107), .bin .or (.t 102) (.t 106), none⟩,
 ⟨(some 108), .mv (.t 11), none⟩,
 ⟨(some 109), .bin .and (.t 108) (.c (.i .u8 63)), none⟩,
 ⟨(some 110), .cvI .i32 (.t 109), none⟩,
 ⟨(some 111), .bin .shl (.t 110) (.c (.i .u64 6)), none⟩,
 ⟨(some 112), .bin .or (.t 107) (.t 111), none⟩,
 ⟨(some 113), .mv (.t 12), none⟩,
 ⟨(some 114), .bin .and (.t 113) (.c (.i .u8 63)), none⟩,
 ⟨(some 115), .cvI .i32 (.t 114), none⟩,
 ⟨(some 116), .bin .or (.t 112) (.t 115), none⟩,
 ⟨(some 2), .mv (.t 116), none⟩,
 ⟨(some 3), .mv (.c (.i .i64 4)), none⟩])
 .ret)))))))))))))))))) }
def c_walk_walker_below : Fun := { cin := [.id, .id], cout := [(.sl 1 .id)], ntmps := 21, keep := false, res := [(4, none)], body :=
 (.seq (.reg [⟨(some 4), .mv (.c .nsl), none⟩])
 (.seq (.reg [⟨(some 6), .mv (.t 0), none⟩,
 ⟨(some 7), .nck (.t 6), none⟩,
 ⟨(some 8), .fa 1 (.t 7), none⟩,
 ⟨(some 9), .ld false 1 (.t 8), none⟩,
 ⟨(some 10), .len 1 (.t 9), none⟩,
 ⟨(some 5), .mv (.t 10), none⟩])
 (.seq (.reg [⟨(some 11), .mv (.t 0), none⟩,
 ⟨(some 12), .nck (.t 11), none⟩,
 ⟨(some 13), .fa 1 (.t 12), none⟩,
 ⟨(some 14), .ld false 1 (.t 13), none⟩,
 ⟨(some 15), .mv (.t 5), none⟩,
 ⟨(some 16), .mv (.t 5), none⟩,
 ⟨(some 17), .slc false 1 (.t 14) none (some (.t 15)) (some (.t 16)), none⟩,
 ⟨(some 18), .mv (.t 1), none⟩,
 ⟨(some 19), .bsl 1 [(.t 18)], none⟩,
 ⟨(some 20), .app 1 9 (.t 17) (.t 19), none⟩,
 ⟨(some 4), .mv (.t 20), none⟩])
 .ret))) }
def c_walk_walker_follow : Fun := { cin := [.id, (.sl 1 .id)], cout := [.id], ntmps := 63, keep := false, res := [(4, none)], body :=
 (.seq (.reg [⟨(some 4), .mv (.c (.i .i64 0)), none⟩])
 (.seq (.reg [⟨(some 7), .mv (.t 0), none⟩,
 ⟨(some 8), .nck (.t 7), none⟩,
 ⟨(some 9), .fa 5 (.t 8), none⟩,
 ⟨(some 10), .ld false 1 (.t 9), none⟩,
 ⟨(some 11), .bin .add (.t 10) (.c (.i .i64 1)), none⟩,
 ⟨(some 12), .nck (.t 7), none⟩,
 ⟨(some 13), .fa 5 (.t 12), none⟩,
 ⟨none, .st 1 (.t 13) (.t 11), none⟩])
 (.seq (.seq (.reg [⟨(some 14), .mv (.t 0), none⟩,
 ⟨(some 15), .nck (.t 14), none⟩,
 ⟨(some 16), .fa 5 (.t 15), none⟩,
 ⟨(some 17), .ld false 1 (.t 16), none⟩,
 ⟨(some 18), .bin .gtr (.t 17) (.c (.i .i64 8)), none⟩])
 (.cond (.t 18)
 (.seq (.reg [⟨(some 4), .mv (.c (.i .i64 61)), none⟩])
 .ret)
 .skip))
 (.seq (.reg [⟨(some 19), .mv (.t 0), none⟩,
 ⟨(some 20), .nck (.t 19), none⟩,
 ⟨(some 21), .fa 0 (.t 20), none⟩,
 ⟨(some 22), .ld false 1 (.t 21), none⟩,
 ⟨(some 23), .mv (.t 1), none⟩,
 ⟨(some 24), .inv [(108, f_ftree_Tree_Text)] (.t 22) [(.t 23)], none⟩,
 ⟨(some 5), .mv (.t 24), none⟩])
 (.seq (.seq (.reg [⟨(some 25), .mv (.t 0), none⟩,
 ⟨(some 26), .nck (.t 25), none⟩,
 ⟨(some 27), .fa 2 (.t 26), none⟩,
 ⟨(some 28), .ld false 1 (.t 27), none⟩,
 ⟨(some 29), .len 1 (.t 28), none⟩,
 ⟨(some 30), .bin .eql (.t 29) (.c (.i .i64 0)), none⟩])
 (.cond (.t 30)
 (.reg [⟨(some 31), .mv (.t 0), none⟩,
 ⟨(some 32), .mv (.t 0), none⟩,
 ⟨(some 33), .nck (.t 32), none⟩,
 ⟨(some 34), .fa 3 (.t 33), none⟩,
 ⟨(some 35), .ld false 1 (.t 34), none⟩,
 ⟨(some 36), .mv (.t 35), none⟩,
 ⟨(some 37), .mv (.t 5), (some (36, false))⟩,
 ⟨(some 38), .call f_path_Dir [(.t 37)], (some (36, false))⟩,
 ⟨(some 39), .pick (.t 36) (.c (.b true)) (.t 38), none⟩,
 ⟨(some 40), .nck (.t 31), none⟩,
 ⟨(some 41), .fa 3 (.t 40), none⟩,
 ⟨none, .st 1 (.t 41) (.t 39), none⟩])
 .skip))
 (.seq (.reg [⟨(some 42), .mv (.t 5), none⟩,
 ⟨(some 43), .call f_path_Steps [(.t 42)], none⟩,
 ⟨(some 6), .mv (.t 43), none⟩])
 (.seq (.regD [⟨(some 44), .mv (.t 0), none⟩,
 ⟨(some 45), .mv (.t 6), none⟩,
 ⟨(some 46), .mv (.t 6), none⟩,
 ⟨(some 47), .len 1 (.t 46), none⟩,
 ⟨(some 48), .mv (.t 6), none⟩,
 ⟨(some 49), .len 1 (.t 48), none⟩,
 ⟨(some 50), .slc false 1 (.t 45) none (some (.t 47)) (some (.t 49)), none⟩,
 ⟨(some 51), .mv (.t 0), none⟩,
 ⟨(some 52), .nck (.t 51), none⟩,
 ⟨(some 53), .fa 2 (.t 52), none⟩,
 ⟨(some 54), .ld false 1 (.t 53), none⟩,
 ⟨(some 55), .app 1 9 (.t 50) (.t 54), none⟩,
 ⟨(some 56), .nck (.t 44), none⟩,
 ⟨(some 57), .fa 2 (.t 56), none⟩,
 ⟨none, .st 1 (.t 57) (.t 55), none⟩] [])
 (.seq (.seq (.reg [⟨(some 58), .mv (.t 5), none⟩,
 ⟨(some 59), .call f_strings_HasPrefix [(.t 58), (.c (.s [47]))], none⟩])
 (.cond (.t 59)
 (.reg [⟨(some 60), .mv (.t 0), none⟩,
 ⟨(some 61), .nck (.t 60), none⟩,
 ⟨(some 62), .fa 1 (.t 61), none⟩,
 ⟨none, .st 1 (.t 62) (.c .nsl), none⟩])
 .skip))
 (.seq (.reg [⟨(some 4), .mv (.c (.i .i64 0)), none⟩])
 .ret))))))))) }
def c_ftree_Tree_Del : Fun := { cin := [.id, (.sl 1 .id)], cout := [], ntmps := 22, keep := false, res := [], body :=
 (.seq (.seq (.reg [⟨(some 4), .mv (.t 1), none⟩,
 ⟨(some 5), .len 1 (.t 4), none⟩,
 ⟨(some 6), .bin .eql (.t 5) (.c (.i .i64 0)), none⟩,
 ⟨(some 7), .mv (.t 6), none⟩,
 ⟨(some 8), .mv (.t 0), (some (7, false))⟩,
 ⟨(some 9), .mv (.t 1), (some (7, false))⟩,
 ⟨(some 10), .call f_ftree_Tree_Kind [(.t 8), (.t 9)], (some (7, false))⟩,
 ⟨(some 11), .bin .eql (.t 10) (.c (.i .u8 0)), (some (7, false))⟩,
 ⟨(some 12), .pick (.t 7) (.c (.b true)) (.t 11), none⟩])
 (.cond (.t 12)
 .ret
 .skip))
 (.reg [⟨(some 13), .mv (.t 0), none⟩,
 ⟨(some 14), .mv (.t 0), none⟩,
 ⟨(some 15), .nck (.t 14), none⟩,
 ⟨(some 16), .fa 0 (.t 15), none⟩,
 ⟨(some 17), .ld true 4 (.t 16), none⟩,
 ⟨(some 18), .mv (.t 1), none⟩,
 ⟨(some 19), .call f_ftree_change [(.t 17), (.t 18), (.c (.fn f_ftree_Tree_Del_1 []))], none⟩,
 ⟨(some 20), .nck (.t 13), none⟩,
 ⟨(some 21), .fa 0 (.t 20), none⟩,
 ⟨none, .st 4 (.t 21) (.t 19), none⟩])) }
def c_ftree_Tree_Empty : Fun := { cin := [.id, (.sl 1 .id)], cout := [.id], ntmps := 18, keep := false, res := [(4, none)], body :=
 (.seq (.reg [⟨(some 4), .mv (.c (.b false)), none⟩])
 (.seq (.reg [⟨(some 6), .mv (.t 0), none⟩,
 ⟨(some 7), .mv (.t 1), none⟩,
 ⟨(some 8), .call f_ftree_Tree_at [(.t 6), (.t 7)], none⟩,
 ⟨(some 5), .alloc 49 [(.i .u8 0), (.s []), .nsl, .nsl], none⟩,
 ⟨none, .st 4 (.t 5) (.t 8), none⟩])
 (.seq (.reg [⟨(some 9), .fa 0 (.t 5), none⟩,
 ⟨(some 10), .ld false 1 (.t 9), none⟩,
 ⟨(some 11), .bin .eql (.t 10) (.c (.i .u8 2)), none⟩,
 ⟨(some 12), .mv (.t 11), none⟩,
 ⟨(some 13), .fa 2 (.t 5), (some (12, true))⟩,
 ⟨(some 14), .ld false 1 (.t 13), (some (12, true))⟩,
 ⟨(some 15), .len 1 (.t 14), (some (12, true))⟩,
 ⟨(some 16), .bin .eql (.t 15) (.c (.i .i64 0)), (some (12, true))⟩,
 ⟨(some 17), .pick (.t 12) (.t 16) (.c (.b false)), none⟩,
 ⟨(some 4), .mv (.t 17), none⟩])
 .ret))) }
def c_ftree_Tree_Put : Fun := { cin := [.id, (.sl 1 .id), (.agg [.id, .id, (.sl 1 .id), (.sl 4 (.agg [.id, .id, (.sl 1 .id), (.sl 4 (.agg [.id, .id, (.sl 1 .id), (.sl 4 .id)]))]))])], cout := [], ntmps := 18, keep := false, res := [], body :=
 (.seq (.reg [⟨(some 5), .box 49 4 (.t 2), none⟩])
 (.seq (.reg [⟨(some 6), .ld true 4 (.t 5), none⟩,
 ⟨(some 7), .call f_ftree_Well [(.t 6)], none⟩,
 ⟨(some 8), .mv (.t 7), none⟩,
 ⟨(some 9), .mv (.t 0), (some (8, true))⟩,
 ⟨(some 10), .mv (.t 1), (some (8, true))⟩,
 ⟨(some 11), .call f_ftree_Tree_open [(.t 9), (.t 10)], (some (8, true))⟩,
 ⟨(some 12), .pick (.t 8) (.t 11) (.c (.b false)), none⟩])
 (.cond (.t 12)
 (.reg [⟨(some 13), .mv (.t 0), none⟩,
 ⟨(some 14), .mv (.t 1), none⟩,
 ⟨(some 15), .ld true 4 (.t 5), none⟩,
 ⟨(some 16), .call f_ftree_own [(.t 15)], none⟩,
 ⟨(some 17), .call f_ftree_Tree_set [(.t 13), (.t 14), (.t 16)], none⟩])
 .skip))) }
def c_ftree_Tree_Text : Fun := { cin := [.id, (.sl 1 .id)], cout := [.id], ntmps := 9, keep := false, res := [(4, none)], body :=
 (.seq (.reg [⟨(some 4), .mv (.c (.s [])), none⟩])
 (.seq (.reg [⟨(some 5), .mv (.t 0), none⟩,
 ⟨(some 6), .mv (.t 1), none⟩,
 ⟨(some 7), .call f_ftree_Tree_at [(.t 5), (.t 6)], none⟩,
 ⟨(some 8), .fld false 1 1 (.t 7), none⟩,
 ⟨(some 4), .mv (.t 8), none⟩])
 .ret)) }
def c_ftree_change : Fun := { cin := [(.agg [.id, .id, (.sl 1 .id), (.sl 4 (.agg [.id, .id, (.sl 1 .id), (.sl 4 (.agg [.id, .id, (.sl 1 .id), (.sl 4 .id)]))]))]), (.sl 1 .id), .id], cout := [(.agg [.id, .id, (.sl 1 .id), (.sl 4 (.agg [.id, .id, (.sl 1 .id), (.sl 4 (.agg [.id, .id, (.sl 1 .id), (.sl 4 .id)]))]))])], ntmps := 56, keep := false, res := [(6, some (true, 4))], body :=
 (.seq (.reg [⟨(some 3), .box 49 4 (.t 0), none⟩,
 ⟨(some 6), .alloc 49 [(.i .u8 0), (.s []), .nsl, .nsl], none⟩])
 (.seq (.regD [⟨(some 10), .fa 2 (.t 3), none⟩,
 ⟨(some 11), .ld false 1 (.t 10), none⟩,
 ⟨(some 12), .mv (.t 1), none⟩,
 ⟨(some 13), .ia 1 (.t 12) (.c (.i .i64 0)), none⟩,
 ⟨(some 14), .ld false 1 (.t 13), none⟩,
 ⟨(some 15), .call f_slices_BinarySearch_string_string [(.t 11), (.t 14)], none⟩,
 ⟨(some 9), .mv (.t 15), none⟩,
 ⟨(some 16), .ext (.t 9) 0, none⟩,
 ⟨(some 17), .ext (.t 9) 1, none⟩,
 ⟨(some 7), .mv (.t 16), none⟩,
 ⟨(some 8), .mv (.t 17), none⟩] [])
 (.seq (.seq (.reg [⟨(some 18), .mv (.t 1), none⟩,
 ⟨(some 19), .len 1 (.t 18), none⟩,
 ⟨(some 20), .bin .eql (.t 19) (.c (.i .i64 1)), none⟩])
 (.cond (.t 20)
 (.seq (.reg [⟨(some 21), .mv (.t 2), none⟩,
 ⟨(some 22), .ld true 4 (.t 3), none⟩,
 ⟨(some 23), .mv (.t 7), none⟩,
 ⟨(some 24), .mv (.t 8), none⟩,
 ⟨(some 25), .callX (.t 21) [(.t 22), (.t 23), (.t 24)], none⟩,
 ⟨none, .st 4 (.t 6) (.t 25), none⟩])
 .ret)
 .skip))
 (.seq (.seq (.reg [⟨(some 26), .mv (.t 8), none⟩,
 ⟨(some 27), .un .not (.t 26), none⟩,
 ⟨(some 28), .mv (.t 27), none⟩,
 ⟨(some 29), .fa 3 (.t 3), (some (28, false))⟩,
 ⟨(some 30), .ld false 1 (.t 29), (some (28, false))⟩,
 ⟨(some 31), .mv (.t 7), (some (28, false))⟩,
 ⟨(some 32), .ia 4 (.t 30) (.t 31), (some (28, false))⟩,
 ⟨(some 33), .fa 0 (.t 32), (some (28, false))⟩,
 ⟨(some 34), .ld false 1 (.t 33), (some (28, false))⟩,
 ⟨(some 35), .bin .neq (.t 34) (.c (.i .u8 2)), (some (28, false))⟩,
 ⟨(some 36), .pick (.t 28) (.c (.b true)) (.t 35), none⟩])
 (.cond (.t 36)
 (.seq (.reg [⟨(some 37), .ld true 4 (.t 3), none⟩,
 ⟨none, .st 4 (.t 6) (.t 37), none⟩])
 .ret)
 .skip))
 (.seq (.reg [⟨(some 38), .fa 3 (.t 3), none⟩,
 ⟨(some 39), .ld false 1 (.t 38), none⟩,
 ⟨(some 40), .callQ true f_slices_Clone_api_Node_api_Node [(.t 39)], none⟩,
 ⟨(some 41), .fa 3 (.t 3), none⟩,
 ⟨none, .st 1 (.t 41) (.t 40), none⟩])
 (.seq (.regD [⟨(some 42), .fa 3 (.t 3), none⟩,
 ⟨(some 43), .ld false 1 (.t 42), none⟩,
 ⟨(some 44), .mv (.t 7), none⟩,
 ⟨(some 45), .fa 3 (.t 3), none⟩,
 ⟨(some 46), .ld false 1 (.t 45), none⟩,
 ⟨(some 47), .mv (.t 7), none⟩,
 ⟨(some 48), .ia 4 (.t 46) (.t 47), none⟩,
 ⟨(some 49), .ld true 4 (.t 48), none⟩,
 ⟨(some 50), .mv (.t 1), none⟩,
 ⟨(some 51), .slc false 1 (.t 50) (some (.c (.i .i64 1))) none none, none⟩,
 ⟨(some 52), .mv (.t 2), none⟩,
 ⟨(some 53), .call f_ftree_change [(.t 49), (.t 51), (.t 52)], none⟩,
 ⟨(some 54), .ia 4 (.t 43) (.t 44), none⟩,
 ⟨none, .st 4 (.t 54) (.t 53), none⟩] [(1, (1, 12))])
 (.seq (.reg [⟨(some 55), .ld true 4 (.t 3), none⟩,
 ⟨none, .st 4 (.t 6) (.t 55), none⟩])
 .ret))))))) }
def c_ftree_Tree_Del_1 : Fun := { cin := [(.agg [.id, .id, (.sl 1 .id), (.sl 4 (.agg [.id, .id, (.sl 1 .id), (.sl 4 (.agg [.id, .id, (.sl 1 .id), (.sl 4 .id)]))]))]), .id, .id], cout := [(.agg [.id, .id, (.sl 1 .id), (.sl 4 (.agg [.id, .id, (.sl 1 .id), (.sl 4 (.agg [.id, .id, (.sl 1 .id), (.sl 4 .id)]))]))])], ntmps := 25, keep := false, res := [(6, some (true, 4))], body :=
 (.seq (.reg [⟨(some 3), .box 49 4 (.t 0), none⟩,
 ⟨(some 6), .alloc 49 [(.i .u8 0), (.s []), .nsl, .nsl], none⟩])
 (.seq (.seq (.reg [⟨(some 7), .mv (.t 2), none⟩])
 (.cond (.t 7)
 (.seq (.reg [⟨(some 8), .fa 2 (.t 3), none⟩,
 ⟨(some 9), .ld false 1 (.t 8), none⟩,
 ⟨(some 10), .callQ true f_slices_Clone_string_string [(.t 9)], none⟩,
 ⟨(some 11), .mv (.t 1), none⟩,
 ⟨(some 12), .mv (.t 1), none⟩,
 ⟨(some 13), .bin .add (.t 12) (.c (.i .i64 1)), none⟩,
 ⟨(some 14), .callQ true f_slices_Delete_string_string [(.t 10), (.t 11), (.t 13)], none⟩,
 ⟨(some 15), .fa 2 (.t 3), none⟩,
 ⟨none, .st 1 (.t 15) (.t 14), none⟩])
 (.reg [⟨(some 16), .fa 3 (.t 3), none⟩,
 ⟨(some 17), .ld false 1 (.t 16), none⟩,
 ⟨(some 18), .callQ true f_slices_Clone_api_Node_api_Node [(.t 17)], none⟩,
 ⟨(some 19), .mv (.t 1), none⟩,
 ⟨(some 20), .mv (.t 1), none⟩,
 ⟨(some 21), .bin .add (.t 20) (.c (.i .i64 1)), none⟩,
 ⟨(some 22), .callQ true f_slices_Delete_api_Node_api_Node [(.t 18), (.t 19), (.t 21)], none⟩,
 ⟨(some 23), .fa 3 (.t 3), none⟩,
 ⟨none, .st 1 (.t 23) (.t 22), none⟩]))
 .skip))
 (.seq (.reg [⟨(some 24), .ld true 4 (.t 3), none⟩,
 ⟨none, .st 4 (.t 6) (.t 24), none⟩])
 .ret))) }
def c_slices_Delete_string_string : Fun := { cin := [(.sl 1 .id), .id, .id], cout := [(.sl 1 .id)], ntmps := 33, keep := false, res := [(6, none)], body :=
 (.seq (.reg [⟨(some 6), .mv (.c .nsl), none⟩])
 (.seq (.reg [⟨(some 8), .mv (.t 0), none⟩,
 ⟨(some 9), .mv (.t 1), none⟩,
 ⟨(some 10), .mv (.t 2), none⟩,
 ⟨(some 11), .mv (.t 0), none⟩,
 ⟨(some 12), .len 1 (.t 11), none⟩,
 ⟨(some 13), .slc false 1 (.t 8) (some (.t 9)) (some (.t 10)) (some (.t 12)), none⟩])
 (.seq (.seq (.reg [⟨(some 14), .mv (.t 1), none⟩,
 ⟨(some 15), .mv (.t 2), none⟩,
 ⟨(some 16), .bin .eql (.t 14) (.t 15), none⟩])
 (.cond (.t 16)
 (.seq (.reg [⟨(some 17), .mv (.t 0), none⟩,
 ⟨(some 6), .mv (.t 17), none⟩])
 .ret)
 .skip))
 (.seq (.reg [⟨(some 18), .mv (.t 0), none⟩,
 ⟨(some 19), .len 1 (.t 18), none⟩,
 ⟨(some 7), .mv (.t 19), none⟩])
 (.seq (.regD [⟨(some 20), .mv (.t 0), none⟩,
 ⟨(some 21), .mv (.t 1), none⟩,
 ⟨(some 22), .slc false 1 (.t 20) none (some (.t 21)) none, none⟩,
 ⟨(some 23), .mv (.t 0), none⟩,
 ⟨(some 24), .mv (.t 2), none⟩,
 ⟨(some 25), .slc false 1 (.t 23) (some (.t 24)) none none, none⟩,
 ⟨(some 26), .app 1 9 (.t 22) (.t 25), none⟩,
 ⟨(some 0), .mv (.t 26), none⟩] [])
 (.seq (.reg [⟨(some 27), .mv (.t 0), none⟩,
 ⟨(some 28), .mv (.t 0), none⟩,
 ⟨(some 29), .len 1 (.t 28), none⟩,
 ⟨(some 30), .mv (.t 7), none⟩,
 ⟨(some 31), .slc false 1 (.t 27) (some (.t 29)) (some (.t 30)) none, none⟩,
 ⟨none, .clr 1 [(.s [])] (.t 31), none⟩])
 (.seq (.reg [⟨(some 32), .mv (.t 0), none⟩,
 ⟨(some 6), .mv (.t 32), none⟩])
 .ret))))))) }
def c_slices_Delete_api_Node_api_Node : Fun := { cin := [(.sl 4 (.agg [.id, .id, (.sl 1 .id), (.sl 4 (.agg [.id, .id, (.sl 1 .id), (.sl 4 (.agg [.id, .id, .id, .id]))]))])), .id, .id], cout := [(.sl 4 (.agg [.id, .id, (.sl 1 .id), (.sl 4 (.agg [.id, .id, (.sl 1 .id), (.sl 4 (.agg [.id, .id, .id, .id]))]))]))], ntmps := 33, keep := false, res := [(6, none)], body :=
 (.seq (.reg [⟨(some 6), .mv (.c .nsl), none⟩])
 (.seq (.reg [⟨(some 8), .mv (.t 0), none⟩,
 ⟨(some 9), .mv (.t 1), none⟩,
 ⟨(some 10), .mv (.t 2), none⟩,
 ⟨(some 11), .mv (.t 0), none⟩,
 ⟨(some 12), .len 1 (.t 11), none⟩,
 ⟨(some 13), .slc false 4 (.t 8) (some (.t 9)) (some (.t 10)) (some (.t 12)), none⟩])
 (.seq (.seq (.reg [⟨(some 14), .mv (.t 1), none⟩,
 ⟨(some 15), .mv (.t 2), none⟩,
 ⟨(some 16), .bin .eql (.t 14) (.t 15), none⟩])
 (.cond (.t 16)
 (.seq (.reg [⟨(some 17), .mv (.t 0), none⟩,
 ⟨(some 6), .mv (.t 17), none⟩])
 .ret)
 .skip))
 (.seq (.reg [⟨(some 18), .mv (.t 0), none⟩,
 ⟨(some 19), .len 1 (.t 18), none⟩,
 ⟨(some 7), .mv (.t 19), none⟩])
 (.seq (.regD [⟨(some 20), .mv (.t 0), none⟩,
 ⟨(some 21), .mv (.t 1), none⟩,
 ⟨(some 22), .slc false 4 (.t 20) none (some (.t 21)) none, none⟩,
 ⟨(some 23), .mv (.t 0), none⟩,
 ⟨(some 24), .mv (.t 2), none⟩,
 ⟨(some 25), .slc false 4 (.t 23) (some (.t 24)) none none, none⟩,
 ⟨(some 26), .app 4 49 (.t 22) (.t 25), none⟩,
 ⟨(some 0), .mv (.t 26), none⟩] [])
 (.seq (.reg [⟨(some 27), .mv (.t 0), none⟩,
 ⟨(some 28), .mv (.t 0), none⟩,
 ⟨(some 29), .len 1 (.t 28), none⟩,
 ⟨(some 30), .mv (.t 7), none⟩,
 ⟨(some 31), .slc false 4 (.t 27) (some (.t 29)) (some (.t 30)) none, none⟩,
 ⟨none, .clr 4 [(.i .u8 0), (.s []), .nsl, .nsl] (.t 31), none⟩])
 (.seq (.reg [⟨(some 32), .mv (.t 0), none⟩,
 ⟨(some 6), .mv (.t 32), none⟩])
 .ret))))))) }
def c_slices_Clone_api_Node_api_Node : Fun := { cin := [(.sl 4 (.agg [.id, .id, (.sl 1 .id), (.sl 4 (.agg [.id, .id, (.sl 1 .id), (.sl 4 (.agg [.id, .id, .id, .id]))]))]))], cout := [], ntmps := 8, keep := true, res := [(2, none)], body :=
 (.seq (.reg [⟨(some 2), .mv (.c .nsl), none⟩])
 (.seq (.seq (.reg [⟨(some 3), .mv (.t 0), none⟩,
 ⟨(some 4), .eq .sl false (.t 3) (.c .nsl), none⟩])
 (.cond (.t 4)
 (.seq (.reg [⟨(some 2), .mv (.c .nsl), none⟩])
 .ret)
 .skip))
 (.seq (.reg [⟨(some 5), .bsl 4 [], none⟩,
 ⟨(some 6), .mv (.t 0), none⟩,
 ⟨(some 7), .app 4 49 (.t 5) (.t 6), none⟩,
 ⟨(some 2), .mv (.t 7), none⟩])
 .ret))) }
def c_ftree_Tree_open : Fun := { cin := [.id, (.sl 1 .id)], cout := [.id], ntmps := 28, keep := false, res := [(4, none)], body :=
 (.seq (.reg [⟨(some 4), .mv (.c (.b false)), none⟩])
 (.seq (.reg [⟨(some 6), .mv (.t 1), none⟩,
 ⟨(some 7), .len 1 (.t 6), none⟩,
 ⟨(some 8), .bin .sub (.t 7) (.c (.i .i64 1)), none⟩,
 ⟨(some 5), .mv (.t 8), none⟩])
 (.seq (.reg [⟨(some 9), .mv (.t 5), none⟩,
 ⟨(some 10), .bin .geq (.t 9) (.c (.i .i64 0)), none⟩,
 ⟨(some 11), .mv (.t 10), none⟩,
 ⟨(some 12), .mv (.t 1), (some (11, true))⟩,
 ⟨(some 13), .mv (.t 5), (some (11, true))⟩,
 ⟨(some 14), .ia 1 (.t 12) (.t 13), (some (11, true))⟩,
 ⟨(some 15), .ld false 1 (.t 14), (some (11, true))⟩,
 ⟨(some 16), .call f_path_Name [(.t 15)], (some (11, true))⟩,
 ⟨(some 17), .pick (.t 11) (.t 16) (.c (.b false)), none⟩,
 ⟨(some 18), .mv (.t 17), none⟩,
 ⟨(some 19), .mv (.t 0), (some (18, true))⟩,
 ⟨(some 20), .mv (.t 1), (some (18, true))⟩,
 ⟨(some 21), .mv (.t 5), (some (18, true))⟩,
 ⟨(some 22), .mv (.t 5), (some (18, true))⟩,
 ⟨(some 23), .slc false 1 (.t 20) none (some (.t 21)) (some (.t 22)), (some (18, true))⟩,
 ⟨(some 24), .call f_ftree_Tree_at [(.t 19), (.t 23)], (some (18, true))⟩,
 ⟨(some 25), .fld false 0 1 (.t 24), (some (18, true))⟩,
 ⟨(some 26), .bin .eql (.t 25) (.c (.i .u8 2)), (some (18, true))⟩,
 ⟨(some 27), .pick (.t 18) (.t 26) (.c (.b false)), none⟩,
 ⟨(some 4), .mv (.t 27), none⟩])
 .ret))) }
def c_ftree_Tree_set : Fun := { cin := [.id, (.sl 1 .id), (.agg [.id, .id, (.sl 1 .id), (.sl 4 (.agg [.id, .id, (.sl 1 .id), (.sl 4 (.agg [.id, .id, (.sl 1 .id), (.sl 4 .id)]))]))])], cout := [], ntmps := 23, keep := false, res := [], body :=
 (.seq (.reg [⟨(some 5), .box 49 4 (.t 2), none⟩])
 (.seq (.reg [⟨(some 7), .mv (.t 1), none⟩,
 ⟨(some 8), .mv (.t 1), none⟩,
 ⟨(some 9), .len 1 (.t 8), none⟩,
 ⟨(some 10), .bin .sub (.t 9) (.c (.i .i64 1)), none⟩,
 ⟨(some 11), .ia 1 (.t 7) (.t 10), none⟩,
 ⟨(some 12), .ld false 1 (.t 11), none⟩,
 ⟨(some 6), .alloc 9 [(.s [])], none⟩,
 ⟨none, .st 1 (.t 6) (.t 12), none⟩])
 (.reg [⟨(some 13), .mv (.t 0), none⟩,
 ⟨(some 14), .mv (.t 0), none⟩,
 ⟨(some 15), .nck (.t 14), none⟩,
 ⟨(some 16), .fa 0 (.t 15), none⟩,
 ⟨(some 17), .ld true 4 (.t 16), none⟩,
 ⟨(some 18), .mv (.t 1), none⟩,
 ⟨(some 19), .mkf f_ftree_Tree_set_1 [(.t 5), (.t 6)], none⟩,
 ⟨(some 20), .call f_ftree_change [(.t 17), (.t 18), (.t 19)], none⟩,
 ⟨(some 21), .nck (.t 13), none⟩,
 ⟨(some 22), .fa 0 (.t 21), none⟩,
 ⟨none, .st 4 (.t 22) (.t 20), none⟩]))) }
def c_ftree_Tree_set_1 : Fun := { cin := [(.agg [.id, .id, (.sl 1 .id), (.sl 4 (.agg [.id, .id, (.sl 1 .id), (.sl 4 (.agg [.id, .id, (.sl 1 .id), (.sl 4 .id)]))]))]), .id, .id], cout := [(.agg [.id, .id, (.sl 1 .id), (.sl 4 (.agg [.id, .id, (.sl 1 .id), (.sl 4 (.agg [.id, .id, (.sl 1 .id), (.sl 4 .id)]))]))])], ntmps := 37, keep := false, res := [(8, some (true, 4))], body :=
 (.seq (.reg [⟨(some 5), .box 49 4 (.t 0), none⟩,
 ⟨(some 8), .alloc 49 [(.i .u8 0), (.s []), .nsl, .nsl], none⟩])
 (.seq (.seq (.reg [⟨(some 9), .mv (.t 2), none⟩])
 (.cond (.t 9)
 (.seq (.reg [⟨(some 10), .fa 3 (.t 5), none⟩,
 ⟨(some 11), .ld false 1 (.t 10), none⟩,
 ⟨(some 12), .callQ true f_slices_Clone_api_Node_api_Node [(.t 11)], none⟩,
 ⟨(some 13), .fa 3 (.t 5), none⟩,
 ⟨none, .st 1 (.t 13) (.t 12), none⟩])
 (.seq (.reg [⟨(some 14), .fa 3 (.t 5), none⟩,
 ⟨(some 15), .ld false 1 (.t 14), none⟩,
 ⟨(some 16), .mv (.t 1), none⟩,
 ⟨(some 17), .ld true 4 (.t 3), none⟩,
 ⟨(some 18), .ia 4 (.t 15) (.t 16), none⟩,
 ⟨none, .st 4 (.t 18) (.t 17), none⟩])
 (.seq (.reg [⟨(some 19), .ld true 4 (.t 5), none⟩,
 ⟨none, .st 4 (.t 8) (.t 19), none⟩])
 .ret)))
 .skip))
 (.seq (.regD [⟨(some 20), .fa 2 (.t 5), none⟩,
 ⟨(some 21), .ld false 1 (.t 20), none⟩,
 ⟨(some 22), .callI f_slices_Clone_string_string [(.t 21)], none⟩,
 ⟨(some 23), .mv (.t 1), none⟩,
 ⟨(some 24), .ld false 1 (.t 4), none⟩,
 ⟨(some 25), .bsl 1 [(.t 24)], none⟩,
 ⟨(some 26), .callI f_slices_Insert_string_string [(.t 22), (.t 23), (.t 25)], none⟩,
 ⟨(some 27), .fa 2 (.t 5), none⟩,
 ⟨none, .st 1 (.t 27) (.t 26), none⟩] [(4, (2, 4))])
 (.seq (.regD [⟨(some 28), .fa 3 (.t 5), none⟩,
 ⟨(some 29), .ld false 1 (.t 28), none⟩,
 ⟨(some 30), .callI f_slices_Clone_api_Node_api_Node [(.t 29)], none⟩,
 ⟨(some 31), .mv (.t 1), none⟩,
 ⟨(some 32), .ld true 4 (.t 3), none⟩,
 ⟨(some 33), .bsl 4 [(.t 32)], none⟩,
 ⟨(some 34), .callI f_slices_Insert_api_Node_api_Node [(.t 30), (.t 31), (.t 33)], none⟩,
 ⟨(some 35), .fa 3 (.t 5), none⟩,
 ⟨none, .st 1 (.t 35) (.t 34), none⟩] [(4, (2, 4))])
 (.seq (.reg [⟨(some 36), .ld true 4 (.t 5), none⟩,
 ⟨none, .st 4 (.t 8) (.t 36), none⟩])
 .ret))))) }
def tab : PT := (.n 194 c_strings_Builder_WriteString (.n 143 c_cmp_Less_string (.n 107 c_slices_Insert_string_string (.n 66 c_touchstonelaw12_example (.n 30 c_touchstonelaw12_awake (.n 28 c_dirs_Reason (.n 6 c_touchstonelaw12_DirsReason .e .e) (.n 29 c_touchstoneref12_Reason .e .e)) (.n 65 c_ftree_May (.n 53 c_strings_Contains .e .e) .e)) (.n 86 c_strings_HasPrefix (.n 68 c_ftree_Tree_Kind (.n 67 c_dirs_Run .e .e) (.n 69 c_slices_Collect_string .e .e)) (.n 106 c_slices_BinarySearch_string_string (.n 90 c_strings_Index .e .e) .e))) (.n 114 c_opts_Parse (.n 111 c_ftree_depth (.n 109 c_ftree_Well (.n 108 c_slices_Insert_api_Node_api_Node .e .e) (.n 110 c_ftree_Nodes .e .e)) (.n 113 c_dirs_utilities (.n 112 c_ftree_New .e .e) .e)) (.n 131 c_internal_stringslite_HasPrefix (.n 116 c_ftree_Tree_at (.n 115 c_path_Check .e .e) (.n 117 c_slices_AppendSeq_string_string .e .e)) (.n 136 c_path_Name (.n 133 c_internal_stringslite_Index .e .e) .e)))) (.n 159 c_slices_Clone_string_string (.n 152 c_dirs_call_mkdir (.n 149 c_strings_IndexByte (.n 146 c_slices_rotateRight_string (.n 144 c_slices_isNaN_string .e .e) (.n 148 c_slices_rotateRight_api_Node .e .e)) (.n 151 c_dirs_utilities_1 (.n 150 c_ftree_own .e .e) .e)) (.n 156 c_opts_Opts_Has (.n 154 c_dirs_call_touch (.n 153 c_dirs_call_rmdir .e .e) (.n 155 c_dirs_utilities_2 .e .e)) (.n 158 c_opts_letter (.n 157 c_dirs_call_rm .e .e) .e))) (.n 188 c_cmp_isNaN_string (.n 179 c_internal_stringslite_IndexByte (.n 161 c_ftree_find (.n 160 c_path_steps .e .e) (.n 178 c_strings_ContainsAny .e .e)) (.n 182 c_internal_bytealg_IndexRabinKarp_string (.n 181 c_internal_bytealg_Cutover .e .e) .e)) (.n 191 c_dirs_call_spot (.n 190 c_slices_rotateLeft_api_Node (.n 189 c_slices_rotateLeft_string .e .e) .e) (.n 193 c_path_Steps (.n 192 c_prim_MakeDir .e .e) .e))))) (.n 236 c_strings_shouldUseASCIISet (.n 221 c_slices_Reverse_api_Node_api_Node (.n 201 c_prim_Unlink (.n 198 c_walk_Spot (.n 196 c_strings_Builder_String (.n 195 c_walk_Find .e .e) (.n 197 c_prim_RemoveDir .e .e)) (.n 200 c_prim_Touch (.n 199 c_path_Dir .e .e) .e)) (.n 214 c_strings_IndexAny (.n 203 c_path_steps_1 (.n 202 c_prim_RemoveAll .e .e) (.n 204 c_strings_SplitSeq .e .e)) (.n 220 c_slices_Reverse_string_string (.n 216 c_internal_bytealg_hashStr_string .e .e) .e))) (.n 228 c_prim_at (.n 225 c_prim_remove (.n 223 c_strings_Builder_copyCheck (.n 222 c_prim_put .e .e) (.n 224 c_walk_walk .e .e)) (.n 227 c_strings_LastIndexByte (.n 226 c_prim_RemoveDir_1 .e .e) .e)) (.n 231 c_prim_RemoveAll_1 (.n 230 c_prim_Unlink_1 (.n 229 c_prim_Touch_1 .e .e) .e) (.n 235 c_strings_IndexRune (.n 232 c_strings_splitSeq .e .e) .e)))) (.n 275 c_walk_walker_follow (.n 257 c_prim_taken (.n 254 c_walk_walker_run (.n 238 c_strings_asciiSet_contains (.n 237 c_strings_makeASCIISet .e .e) (.n 252 c_prim_put_1 .e .e)) (.n 256 c_internal_bytealg_LastIndexByteString (.n 255 c_prim_remove_1 .e .e) .e)) (.n 269 c_walk_walker_name (.n 259 c_unicode_utf8_DecodeRuneInString (.n 258 c_strings_splitSeq_1 .e .e) (.n 260 c_unicode_utf8_ValidRune .e .e)) (.n 274 c_walk_walker_below (.n 270 c_unicode_utf8_decodeRuneInStringSlow .e .e) .e))) (.n 300 c_slices_Delete_string_string (.n 297 c_ftree_Tree_Text (.n 295 c_ftree_Tree_Empty (.n 294 c_ftree_Tree_Del .e .e) (.n 296 c_ftree_Tree_Put .e .e)) (.n 299 c_ftree_Tree_Del_1 (.n 298 c_ftree_change .e .e) .e)) (.n 303 c_ftree_Tree_open (.n 302 c_slices_Clone_api_Node_api_Node (.n 301 c_slices_Delete_api_Node_api_Node .e .e) .e) (.n 305 c_ftree_Tree_set_1 (.n 304 c_ftree_Tree_set .e .e) .e))))))
def prog (n : Nat) : Option Fun := tab.get n
theorem p_touchstonelaw12_DirsReason : prog f_touchstonelaw12_DirsReason = some c_touchstonelaw12_DirsReason := rfl
theorem p_dirs_Reason : prog f_dirs_Reason = some c_dirs_Reason := rfl
theorem p_touchstoneref12_Reason : prog f_touchstoneref12_Reason = some c_touchstoneref12_Reason := rfl
theorem p_touchstonelaw12_awake : prog f_touchstonelaw12_awake = some c_touchstonelaw12_awake := rfl
theorem p_strings_Contains : prog f_strings_Contains = some c_strings_Contains := rfl
theorem p_ftree_May : prog f_ftree_May = some c_ftree_May := rfl
theorem p_touchstonelaw12_example : prog f_touchstonelaw12_example = some c_touchstonelaw12_example := rfl
theorem p_dirs_Run : prog f_dirs_Run = some c_dirs_Run := rfl
theorem p_ftree_Tree_Kind : prog f_ftree_Tree_Kind = some c_ftree_Tree_Kind := rfl
theorem p_slices_Collect_string : prog f_slices_Collect_string = some c_slices_Collect_string := rfl
theorem p_strings_HasPrefix : prog f_strings_HasPrefix = some c_strings_HasPrefix := rfl
theorem p_strings_Index : prog f_strings_Index = some c_strings_Index := rfl
theorem p_slices_BinarySearch_string_string : prog f_slices_BinarySearch_string_string = some c_slices_BinarySearch_string_string := rfl
theorem p_slices_Insert_string_string : prog f_slices_Insert_string_string = some c_slices_Insert_string_string := rfl
theorem p_slices_Insert_api_Node_api_Node : prog f_slices_Insert_api_Node_api_Node = some c_slices_Insert_api_Node_api_Node := rfl
theorem p_ftree_Well : prog f_ftree_Well = some c_ftree_Well := rfl
theorem p_ftree_Nodes : prog f_ftree_Nodes = some c_ftree_Nodes := rfl
theorem p_ftree_depth : prog f_ftree_depth = some c_ftree_depth := rfl
theorem p_ftree_New : prog f_ftree_New = some c_ftree_New := rfl
theorem p_dirs_utilities : prog f_dirs_utilities = some c_dirs_utilities := rfl
theorem p_opts_Parse : prog f_opts_Parse = some c_opts_Parse := rfl
theorem p_path_Check : prog f_path_Check = some c_path_Check := rfl
theorem p_ftree_Tree_at : prog f_ftree_Tree_at = some c_ftree_Tree_at := rfl
theorem p_slices_AppendSeq_string_string : prog f_slices_AppendSeq_string_string = some c_slices_AppendSeq_string_string := rfl
theorem p_internal_stringslite_HasPrefix : prog f_internal_stringslite_HasPrefix = some c_internal_stringslite_HasPrefix := rfl
theorem p_internal_stringslite_Index : prog f_internal_stringslite_Index = some c_internal_stringslite_Index := rfl
theorem p_path_Name : prog f_path_Name = some c_path_Name := rfl
theorem p_cmp_Less_string : prog f_cmp_Less_string = some c_cmp_Less_string := rfl
theorem p_slices_isNaN_string : prog f_slices_isNaN_string = some c_slices_isNaN_string := rfl
theorem p_slices_rotateRight_string : prog f_slices_rotateRight_string = some c_slices_rotateRight_string := rfl
theorem p_slices_rotateRight_api_Node : prog f_slices_rotateRight_api_Node = some c_slices_rotateRight_api_Node := rfl
theorem p_strings_IndexByte : prog f_strings_IndexByte = some c_strings_IndexByte := rfl
theorem p_ftree_own : prog f_ftree_own = some c_ftree_own := rfl
theorem p_dirs_utilities_1 : prog f_dirs_utilities_1 = some c_dirs_utilities_1 := rfl
theorem p_dirs_call_mkdir : prog f_dirs_call_mkdir = some c_dirs_call_mkdir := rfl
theorem p_dirs_call_rmdir : prog f_dirs_call_rmdir = some c_dirs_call_rmdir := rfl
theorem p_dirs_call_touch : prog f_dirs_call_touch = some c_dirs_call_touch := rfl
theorem p_dirs_utilities_2 : prog f_dirs_utilities_2 = some c_dirs_utilities_2 := rfl
theorem p_opts_Opts_Has : prog f_opts_Opts_Has = some c_opts_Opts_Has := rfl
theorem p_dirs_call_rm : prog f_dirs_call_rm = some c_dirs_call_rm := rfl
theorem p_opts_letter : prog f_opts_letter = some c_opts_letter := rfl
theorem p_slices_Clone_string_string : prog f_slices_Clone_string_string = some c_slices_Clone_string_string := rfl
theorem p_path_steps : prog f_path_steps = some c_path_steps := rfl
theorem p_ftree_find : prog f_ftree_find = some c_ftree_find := rfl
theorem p_strings_ContainsAny : prog f_strings_ContainsAny = some c_strings_ContainsAny := rfl
theorem p_internal_stringslite_IndexByte : prog f_internal_stringslite_IndexByte = some c_internal_stringslite_IndexByte := rfl
theorem p_internal_bytealg_Cutover : prog f_internal_bytealg_Cutover = some c_internal_bytealg_Cutover := rfl
theorem p_internal_bytealg_IndexRabinKarp_string : prog f_internal_bytealg_IndexRabinKarp_string = some c_internal_bytealg_IndexRabinKarp_string := rfl
theorem p_cmp_isNaN_string : prog f_cmp_isNaN_string = some c_cmp_isNaN_string := rfl
theorem p_slices_rotateLeft_string : prog f_slices_rotateLeft_string = some c_slices_rotateLeft_string := rfl
theorem p_slices_rotateLeft_api_Node : prog f_slices_rotateLeft_api_Node = some c_slices_rotateLeft_api_Node := rfl
theorem p_dirs_call_spot : prog f_dirs_call_spot = some c_dirs_call_spot := rfl
theorem p_prim_MakeDir : prog f_prim_MakeDir = some c_prim_MakeDir := rfl
theorem p_path_Steps : prog f_path_Steps = some c_path_Steps := rfl
theorem p_strings_Builder_WriteString : prog f_strings_Builder_WriteString = some c_strings_Builder_WriteString := rfl
theorem p_walk_Find : prog f_walk_Find = some c_walk_Find := rfl
theorem p_strings_Builder_String : prog f_strings_Builder_String = some c_strings_Builder_String := rfl
theorem p_prim_RemoveDir : prog f_prim_RemoveDir = some c_prim_RemoveDir := rfl
theorem p_walk_Spot : prog f_walk_Spot = some c_walk_Spot := rfl
theorem p_path_Dir : prog f_path_Dir = some c_path_Dir := rfl
theorem p_prim_Touch : prog f_prim_Touch = some c_prim_Touch := rfl
theorem p_prim_Unlink : prog f_prim_Unlink = some c_prim_Unlink := rfl
theorem p_prim_RemoveAll : prog f_prim_RemoveAll = some c_prim_RemoveAll := rfl
theorem p_path_steps_1 : prog f_path_steps_1 = some c_path_steps_1 := rfl
theorem p_strings_SplitSeq : prog f_strings_SplitSeq = some c_strings_SplitSeq := rfl
theorem p_strings_IndexAny : prog f_strings_IndexAny = some c_strings_IndexAny := rfl
theorem p_internal_bytealg_hashStr_string : prog f_internal_bytealg_hashStr_string = some c_internal_bytealg_hashStr_string := rfl
theorem p_slices_Reverse_string_string : prog f_slices_Reverse_string_string = some c_slices_Reverse_string_string := rfl
theorem p_slices_Reverse_api_Node_api_Node : prog f_slices_Reverse_api_Node_api_Node = some c_slices_Reverse_api_Node_api_Node := rfl
theorem p_prim_put : prog f_prim_put = some c_prim_put := rfl
theorem p_strings_Builder_copyCheck : prog f_strings_Builder_copyCheck = some c_strings_Builder_copyCheck := rfl
theorem p_walk_walk : prog f_walk_walk = some c_walk_walk := rfl
theorem p_prim_remove : prog f_prim_remove = some c_prim_remove := rfl
theorem p_prim_RemoveDir_1 : prog f_prim_RemoveDir_1 = some c_prim_RemoveDir_1 := rfl
theorem p_strings_LastIndexByte : prog f_strings_LastIndexByte = some c_strings_LastIndexByte := rfl
theorem p_prim_at : prog f_prim_at = some c_prim_at := rfl
theorem p_prim_Touch_1 : prog f_prim_Touch_1 = some c_prim_Touch_1 := rfl
theorem p_prim_Unlink_1 : prog f_prim_Unlink_1 = some c_prim_Unlink_1 := rfl
theorem p_prim_RemoveAll_1 : prog f_prim_RemoveAll_1 = some c_prim_RemoveAll_1 := rfl
theorem p_strings_splitSeq : prog f_strings_splitSeq = some c_strings_splitSeq := rfl
theorem p_strings_IndexRune : prog f_strings_IndexRune = some c_strings_IndexRune := rfl
theorem p_strings_shouldUseASCIISet : prog f_strings_shouldUseASCIISet = some c_strings_shouldUseASCIISet := rfl
theorem p_strings_makeASCIISet : prog f_strings_makeASCIISet = some c_strings_makeASCIISet := rfl
theorem p_strings_asciiSet_contains : prog f_strings_asciiSet_contains = some c_strings_asciiSet_contains := rfl
theorem p_prim_put_1 : prog f_prim_put_1 = some c_prim_put_1 := rfl
theorem p_walk_walker_run : prog f_walk_walker_run = some c_walk_walker_run := rfl
theorem p_prim_remove_1 : prog f_prim_remove_1 = some c_prim_remove_1 := rfl
theorem p_internal_bytealg_LastIndexByteString : prog f_internal_bytealg_LastIndexByteString = some c_internal_bytealg_LastIndexByteString := rfl
theorem p_prim_taken : prog f_prim_taken = some c_prim_taken := rfl
theorem p_strings_splitSeq_1 : prog f_strings_splitSeq_1 = some c_strings_splitSeq_1 := rfl
theorem p_unicode_utf8_DecodeRuneInString : prog f_unicode_utf8_DecodeRuneInString = some c_unicode_utf8_DecodeRuneInString := rfl
theorem p_unicode_utf8_ValidRune : prog f_unicode_utf8_ValidRune = some c_unicode_utf8_ValidRune := rfl
theorem p_walk_walker_name : prog f_walk_walker_name = some c_walk_walker_name := rfl
theorem p_unicode_utf8_decodeRuneInStringSlow : prog f_unicode_utf8_decodeRuneInStringSlow = some c_unicode_utf8_decodeRuneInStringSlow := rfl
theorem p_walk_walker_below : prog f_walk_walker_below = some c_walk_walker_below := rfl
theorem p_walk_walker_follow : prog f_walk_walker_follow = some c_walk_walker_follow := rfl
theorem p_ftree_Tree_Del : prog f_ftree_Tree_Del = some c_ftree_Tree_Del := rfl
theorem p_ftree_Tree_Empty : prog f_ftree_Tree_Empty = some c_ftree_Tree_Empty := rfl
theorem p_ftree_Tree_Put : prog f_ftree_Tree_Put = some c_ftree_Tree_Put := rfl
theorem p_ftree_Tree_Text : prog f_ftree_Tree_Text = some c_ftree_Tree_Text := rfl
theorem p_ftree_change : prog f_ftree_change = some c_ftree_change := rfl
theorem p_ftree_Tree_Del_1 : prog f_ftree_Tree_Del_1 = some c_ftree_Tree_Del_1 := rfl
theorem p_slices_Delete_string_string : prog f_slices_Delete_string_string = some c_slices_Delete_string_string := rfl
theorem p_slices_Delete_api_Node_api_Node : prog f_slices_Delete_api_Node_api_Node = some c_slices_Delete_api_Node_api_Node := rfl
theorem p_slices_Clone_api_Node_api_Node : prog f_slices_Clone_api_Node_api_Node = some c_slices_Clone_api_Node_api_Node := rfl
theorem p_ftree_Tree_open : prog f_ftree_Tree_open = some c_ftree_Tree_open := rfl
theorem p_ftree_Tree_set : prog f_ftree_Tree_set = some c_ftree_Tree_set := rfl
theorem p_ftree_Tree_set_1 : prog f_ftree_Tree_set_1 = some c_ftree_Tree_set_1 := rfl
end Go.Proofs.YtekhkkodgjfidaaGreatDoor
