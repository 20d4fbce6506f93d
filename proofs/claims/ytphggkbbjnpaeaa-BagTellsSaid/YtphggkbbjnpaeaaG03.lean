set_option linter.all false
/-! The numbers of the functions' names. -/
namespace Go.AR
abbrev n_pref04_Right : Nat := 93
abbrev n_pref08_Good : Nat := 136
abbrev n_tally_Get : Nat := 139
abbrev n_tally_Seen : Nat := 141
abbrev n_pref08_Right : Nat := 144
abbrev n_pref08_Get : Nat := 146
abbrev n_pref08_Seen : Nat := 147
abbrev n_tally_at : Nat := 158
abbrev n_tally_compare : Nat := 161
abbrev n_pref08_one : Nat := 162
abbrev n_pref04_Compare : Nat := 163
abbrev n_slices_BinarySearchFunc_api_Undo_api_Undo_api_Undo : Nat := 165
abbrev n_dot_Compare : Nat := 166
abbrev n_pref04_ints : Nat := 167
abbrev n_cmp_Compare_int : Nat := 171
abbrev n_cmp_Or_int : Nat := 172
abbrev n_cmp_isNaN_int : Nat := 174
abbrev n_pref03_Runes : Nat := 184
abbrev n_pref03_Right : Nat := 186
abbrev n_pref03_Char : Nat := 192
abbrev n_pref03_may : Nat := 193
abbrev n_pref10_Short : Nat := 200
abbrev n_path_Same : Nat := 203
abbrev n_pref10_Check : Nat := 206
abbrev n_pref10_Compare : Nat := 207
abbrev n_slices_Equal_string_string : Nat := 218
abbrev n_pref09_Texts : Nat := 221
abbrev n_pref09_ints : Nat := 225
abbrev n_pref11_Short : Nat := 238
abbrev n_pref11_Check : Nat := 239
abbrev n_op_Leaf : Nat := 244
abbrev n_pref11_Leaf : Nat := 245
abbrev n_pref11_Refs : Nat := 247
abbrev n_pref11_Gone : Nat := 251
abbrev n_pref11_Covers : Nat := 252
abbrev n_pref09_Right : Nat := 259
abbrev n_pref04_Refs : Nat := 264
abbrev n_pref12_Short : Nat := 281
abbrev n_pref12_Check : Nat := 283
abbrev n_pref12_Rises : Nat := 295
abbrev n_pref12_Good : Nat := 307
abbrev n_plaw13_Good : Nat := 322
abbrev n_live_All : Nat := 324
abbrev n_pref13_Covered : Nat := 325
abbrev n_pref13_All : Nat := 330
abbrev n_live_At : Nat := 332
abbrev n_pref13_At : Nat := 333
abbrev n_pref13_SameRefs : Nat := 338
abbrev n_live_covered : Nat := 343
end Go.AR

/-! Names of functions, more. Printed by program. -/
namespace Go.AR
abbrev n_plaw15_BagTells : Nat := 353
abbrev n_plaw15_awake : Nat := 354
abbrev n_pref15_Adds : Nat := 355
abbrev n_bag_Values : Nat := 356
abbrev n_pref15_Values : Nat := 357
abbrev n_pref09_Same : Nat := 358
abbrev n_bag_Adds : Nat := 359
abbrev n_bag_Has : Nat := 360
abbrev n_plaw15_act : Nat := 361
abbrev n_slices_BinarySearchFunc_api_Value_api_Value_api_Value : Nat := 362
abbrev n_value_Compare : Nat := 363
abbrev n_slices_Insert_api_Value_api_Value : Nat := 364
abbrev n_pref14_Insert : Nat := 365
abbrev n_strings_Compare : Nat := 366
abbrev n_pref09_Compare : Nat := 367
end Go.AR
