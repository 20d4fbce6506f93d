import Derived.Test.YtmplidjdcmfeaaaDoorG26
import Derived.Test.YtmplidjdcmfeaaaDoorG03
import Derived.Test.YtmplidjdcmfeaaaDoorG25
import Derived.Test.YtmplidjdcmfeaaaDoorG27
import Derived.Test.YtmplidjdcmfeaaaDoorG05
import Derived.Test.YtmplidjdcmfeaaaDoorG09
import Derived.Test.YtmplidjdcmfeaaaDoorG04
import Derived.Test.YtmplidjdcmfeaaaDoorChecked
import Derived.KernelRfl
set_option linter.all false
/-! The seat: which function is which. Printed by program. -/
namespace Go.AR
open Go Go.Proofs
def F11 : Nat → FuncId := fun i => (get [(21, 38), (22, 44), (23, 0), (24, 1), (25, 2), (42, 97), (43, 98), (44, 99), (45, 100), (46, 101), (47, 102), (48, 103), (49, 104), (50, 105), (51, 106), (52, 107), (53, 108), (54, 109), (55, 110), (56, 111), (57, 114), (93, 39), (94, 49), (97, 81), (98, 82), (100, 23), (101, 54), (102, 84), (103, 27), (104, 26), (105, 29), (107, 59), (108, 83), (109, 5), (110, 88), (111, 79), (112, 80), (113, 67), (114, 93), (115, 113), (124, 43), (129, 60), (130, 112), (131, 28), (132, 64), (133, 86), (134, 66), (163, 77), (166, 71), (167, 78), (171, 72), (172, 70), (174, 89), (183, 91), (184, 69), (185, 75), (186, 68), (190, 94), (191, 92), (192, 88), (193, 87), (194, 96), (200, 30), (205, 35), (206, 31), (211, 45), (212, 50), (214, 55), (215, 61), (218, 41), (219, 73), (220, 74), (224, 90), (230, 95), (232, 115), (233, 116), (234, 117), (235, 118), (236, 119), (237, 3), (238, 7), (239, 8), (240, 9), (241, 10), (242, 4), (243, 11), (244, 12), (245, 13), (246, 14), (247, 15), (248, 16), (249, 17), (250, 18), (251, 19), (252, 20), (253, 21), (254, 22), (255, 5), (256, 24), (257, 25), (258, 6), (259, 32), (260, 33), (261, 34), (262, 36), (263, 37), (264, 40), (265, 42), (266, 46), (267, 47), (268, 48), (269, 51), (270, 52), (271, 53), (272, 56), (273, 57), (274, 58), (275, 62), (276, 63), (277, 65), (278, 76), (279, 85)] i).getD 0
def I11 : Inv := utfInv 0 1
abbrev C11 : CallRel := ACallI I11 Tryd.prog
theorem mix11 : Tryd.prog.follows .mixedOrders = true := by kernel_rfl
end Go.AR

namespace Go.AR
open Go Go.Proofs
theorem ok11_slices_IndexFunc_string_string : cFun Tryd.prog H_slices_IndexFunc_string_string Tryd.f90 = some (c_slices_IndexFunc_string_string F11) := by kernel_rfl
theorem a11_slices_IndexFunc_string_string {xs : List Arg} {rv : RV} {outs : List Blk} (h : (c_slices_IndexFunc_string_string F11).gives (ACallI I11 Tryd.prog) xs rv outs) : ACallI I11 Tryd.prog (F11 n_slices_IndexFunc_string_string) xs rv outs := acall_ofI mix11 Tryd.func90 ok11_slices_IndexFunc_string_string h
theorem ok11_slices_ContainsFunc_string_string : cFun Tryd.prog H_slices_ContainsFunc_string_string Tryd.f73 = some (c_slices_ContainsFunc_string_string F11) := by kernel_rfl
theorem a11_slices_ContainsFunc_string_string {xs : List Arg} {rv : RV} {outs : List Blk} (h : (c_slices_ContainsFunc_string_string F11).gives (ACallI I11 Tryd.prog) xs rv outs) : ACallI I11 Tryd.prog (F11 n_slices_ContainsFunc_string_string) xs rv outs := acall_ofI mix11 Tryd.func73 ok11_slices_ContainsFunc_string_string h
theorem ok11_unicode_utf8_DecodeRuneInString : cFun Tryd.prog H_unicode_utf8_DecodeRuneInString Tryd.f94 = some (c_unicode_utf8_DecodeRuneInString F11) := by kernel_rfl
theorem a11_unicode_utf8_DecodeRuneInString {xs : List Arg} {rv : RV} {outs : List Blk} (h : (c_unicode_utf8_DecodeRuneInString F11).gives (ACallI I11 Tryd.prog) xs rv outs) : ACallI I11 Tryd.prog (F11 n_unicode_utf8_DecodeRuneInString) xs rv outs := acall_ofI mix11 Tryd.func94 ok11_unicode_utf8_DecodeRuneInString h
theorem ok11_name_Runes : cFun Tryd.prog H_name_Runes Tryd.f91 = some (c_name_Runes F11) := by kernel_rfl
theorem a11_name_Runes {xs : List Arg} {rv : RV} {outs : List Blk} (h : (c_name_Runes F11).gives (ACallI I11 Tryd.prog) xs rv outs) : ACallI I11 Tryd.prog (F11 n_name_Runes) xs rv outs := acall_ofI mix11 Tryd.func91 ok11_name_Runes h
theorem ok11_name_may : cFun Tryd.prog H_name_may Tryd.f92 = some (c_name_may F11) := by kernel_rfl
theorem a11_name_may {xs : List Arg} {rv : RV} {outs : List Blk} (h : (c_name_may F11).gives (ACallI I11 Tryd.prog) xs rv outs) : ACallI I11 Tryd.prog (F11 n_name_may) xs rv outs := acall_ofI mix11 Tryd.func92 ok11_name_may h
theorem ok11_name_Right : cFun Tryd.prog H_name_Right Tryd.f75 = some (c_name_Right F11) := by kernel_rfl
theorem a11_name_Right {xs : List Arg} {rv : RV} {outs : List Blk} (h : (c_name_Right F11).gives (ACallI I11 Tryd.prog) xs rv outs) : ACallI I11 Tryd.prog (F11 n_name_Right) xs rv outs := acall_ofI mix11 Tryd.func75 ok11_name_Right h
theorem ok11_path_Check_1 : cFun Tryd.prog H_path_Check_1 Tryd.f74 = some (c_path_Check_1 F11) := by kernel_rfl
theorem a11_path_Check_1 {xs : List Arg} {rv : RV} {outs : List Blk} (h : (c_path_Check_1 F11).gives (ACallI I11 Tryd.prog) xs rv outs) : ACallI I11 Tryd.prog (F11 n_path_Check_1) xs rv outs := acall_ofI mix11 Tryd.func74 ok11_path_Check_1 h
theorem ok11_path_Check : cFun Tryd.prog H_path_Check Tryd.f35 = some (c_path_Check F11) := by kernel_rfl
theorem a11_path_Check {xs : List Arg} {rv : RV} {outs : List Blk} (h : (c_path_Check F11).gives (ACallI I11 Tryd.prog) xs rv outs) : ACallI I11 Tryd.prog (F11 n_path_Check) xs rv outs := acall_ofI mix11 Tryd.func35 ok11_path_Check h
theorem ok11_value_Right : cFun Tryd.prog H_value_Right Tryd.f76 = some (c_value_Right F11) := by kernel_rfl
theorem a11_value_Right {xs : List Arg} {rv : RV} {outs : List Blk} (h : (c_value_Right F11).gives (ACallI I11 Tryd.prog) xs rv outs) : ACallI I11 Tryd.prog (F11 n_value_Right) xs rv outs := acall_ofI mix11 Tryd.func76 ok11_value_Right h
theorem ok11_op_valued : cFun Tryd.prog H_op_valued Tryd.f36 = some (c_op_valued F11) := by kernel_rfl
theorem a11_op_valued {xs : List Arg} {rv : RV} {outs : List Blk} (h : (c_op_valued F11).gives (ACallI I11 Tryd.prog) xs rv outs) : ACallI I11 Tryd.prog (F11 n_op_valued) xs rv outs := acall_ofI mix11 Tryd.func36 ok11_op_valued h
theorem ok11_op_amount : cFun Tryd.prog H_op_amount Tryd.f37 = some (c_op_amount F11) := by kernel_rfl
theorem a11_op_amount {xs : List Arg} {rv : RV} {outs : List Blk} (h : (c_op_amount F11).gives (ACallI I11 Tryd.prog) xs rv outs) : ACallI I11 Tryd.prog (F11 n_op_amount) xs rv outs := acall_ofI mix11 Tryd.func37 ok11_op_amount h
theorem ok11_dot_Right : cFun Tryd.prog H_dot_Right Tryd.f38 = some (c_dot_Right F11) := by kernel_rfl
theorem a11_dot_Right {xs : List Arg} {rv : RV} {outs : List Blk} (h : (c_dot_Right F11).gives (ACallI I11 Tryd.prog) xs rv outs) : ACallI I11 Tryd.prog (F11 n_dot_Right) xs rv outs := acall_ofI mix11 Tryd.func38 ok11_dot_Right h
theorem ok11_cmp_isNaN_int : cFun Tryd.prog H_cmp_isNaN_int Tryd.f89 = some (c_cmp_isNaN_int F11) := by kernel_rfl
theorem a11_cmp_isNaN_int {xs : List Arg} {rv : RV} {outs : List Blk} (h : (c_cmp_isNaN_int F11).gives (ACallI I11 Tryd.prog) xs rv outs) : ACallI I11 Tryd.prog (F11 n_cmp_isNaN_int) xs rv outs := acall_ofI mix11 Tryd.func89 ok11_cmp_isNaN_int h
theorem ok11_cmp_Compare_int : cFun Tryd.prog H_cmp_Compare_int Tryd.f72 = some (c_cmp_Compare_int F11) := by kernel_rfl
theorem a11_cmp_Compare_int {xs : List Arg} {rv : RV} {outs : List Blk} (h : (c_cmp_Compare_int F11).gives (ACallI I11 Tryd.prog) xs rv outs) : ACallI I11 Tryd.prog (F11 n_cmp_Compare_int) xs rv outs := acall_ofI mix11 Tryd.func72 ok11_cmp_Compare_int h
theorem ok11_cmp_Or_int : cFun Tryd.prog H_cmp_Or_int Tryd.f70 = some (c_cmp_Or_int F11) := by kernel_rfl
theorem a11_cmp_Or_int {xs : List Arg} {rv : RV} {outs : List Blk} (h : (c_cmp_Or_int F11).gives (ACallI I11 Tryd.prog) xs rv outs) : ACallI I11 Tryd.prog (F11 n_cmp_Or_int) xs rv outs := acall_ofI mix11 Tryd.func70 ok11_cmp_Or_int h
theorem ok11_dot_Compare : cFun Tryd.prog H_dot_Compare Tryd.f71 = some (c_dot_Compare F11) := by kernel_rfl
theorem a11_dot_Compare {xs : List Arg} {rv : RV} {outs : List Blk} (h : (c_dot_Compare F11).gives (ACallI I11 Tryd.prog) xs rv outs) : ACallI I11 Tryd.prog (F11 n_dot_Compare) xs rv outs := acall_ofI mix11 Tryd.func71 ok11_dot_Compare h
theorem ok11_dot_Refs : cFun Tryd.prog H_dot_Refs Tryd.f34 = some (c_dot_Refs F11) := by kernel_rfl
theorem a11_dot_Refs {xs : List Arg} {rv : RV} {outs : List Blk} (h : (c_dot_Refs F11).gives (ACallI I11 Tryd.prog) xs rv outs) : ACallI I11 Tryd.prog (F11 n_dot_Refs) xs rv outs := acall_ofI mix11 Tryd.func34 ok11_dot_Refs h
theorem ok11_op_Refs : cFun Tryd.prog H_op_Refs Tryd.f14 = some (c_op_Refs F11) := by kernel_rfl
theorem a11_op_Refs {xs : List Arg} {rv : RV} {outs : List Blk} (h : (c_op_Refs F11).gives (ACallI I11 Tryd.prog) xs rv outs) : ACallI I11 Tryd.prog (F11 n_op_Refs) xs rv outs := acall_ofI mix11 Tryd.func14 ok11_op_Refs h
theorem ok11_op_Check : cFun Tryd.prog H_op_Check Tryd.f11 = some (c_op_Check F11) := by kernel_rfl
theorem a11_op_Check {xs : List Arg} {rv : RV} {outs : List Blk} (h : (c_op_Check F11).gives (ACallI I11 Tryd.prog) xs rv outs) : ACallI I11 Tryd.prog (F11 n_op_Check) xs rv outs := acall_ofI mix11 Tryd.func11 ok11_op_Check h
theorem ok11_strings_Builder_WriteByte : cFun Tryd.prog H_strings_Builder_WriteByte Tryd.f79 = some (c_strings_Builder_WriteByte F11) := by kernel_rfl
theorem a11_strings_Builder_WriteByte {xs : List Arg} {rv : RV} {outs : List Blk} (h : (c_strings_Builder_WriteByte F11).gives (ACallI I11 Tryd.prog) xs rv outs) : ACallI I11 Tryd.prog (F11 n_strings_Builder_WriteByte) xs rv outs := acall_ofI mix11 Tryd.func79 ok11_strings_Builder_WriteByte h
theorem ok11_pack_Int : cFun Tryd.prog H_pack_Int Tryd.f44 = some (c_pack_Int F11) := by kernel_rfl
theorem a11_pack_Int {xs : List Arg} {rv : RV} {outs : List Blk} (h : (c_pack_Int F11).gives (ACallI I11 Tryd.prog) xs rv outs) : ACallI I11 Tryd.prog (F11 n_pack_Int) xs rv outs := acall_ofI mix11 Tryd.func44 ok11_pack_Int h
theorem ok11_op_Gone : cFun Tryd.prog H_op_Gone Tryd.f18 = some (c_op_Gone F11) := by kernel_rfl
theorem a11_op_Gone {xs : List Arg} {rv : RV} {outs : List Blk} (h : (c_op_Gone F11).gives (ACallI I11 Tryd.prog) xs rv outs) : ACallI I11 Tryd.prog (F11 n_op_Gone) xs rv outs := acall_ofI mix11 Tryd.func18 ok11_op_Gone h
theorem ok11_pack_Text : cFun Tryd.prog H_pack_Text Tryd.f81 = some (c_pack_Text F11) := by kernel_rfl
theorem a11_pack_Text {xs : List Arg} {rv : RV} {outs : List Blk} (h : (c_pack_Text F11).gives (ACallI I11 Tryd.prog) xs rv outs) : ACallI I11 Tryd.prog (F11 n_pack_Text) xs rv outs := acall_ofI mix11 Tryd.func81 ok11_pack_Text h
theorem ok11_path_Code : cFun Tryd.prog H_path_Code Tryd.f45 = some (c_path_Code F11) := by kernel_rfl
theorem a11_path_Code {xs : List Arg} {rv : RV} {outs : List Blk} (h : (c_path_Code F11).gives (ACallI I11 Tryd.prog) xs rv outs) : ACallI I11 Tryd.prog (F11 n_path_Code) xs rv outs := acall_ofI mix11 Tryd.func45 ok11_path_Code h
theorem ok11_value_Fold : cFun Tryd.prog H_value_Fold Tryd.f46 = some (c_value_Fold F11) := by kernel_rfl
theorem a11_value_Fold {xs : List Arg} {rv : RV} {outs : List Blk} (h : (c_value_Fold F11).gives (ACallI I11 Tryd.prog) xs rv outs) : ACallI I11 Tryd.prog (F11 n_value_Fold) xs rv outs := acall_ofI mix11 Tryd.func46 ok11_value_Fold h
theorem ok11_value_Code : cFun Tryd.prog H_value_Code Tryd.f47 = some (c_value_Code F11) := by kernel_rfl
theorem a11_value_Code {xs : List Arg} {rv : RV} {outs : List Blk} (h : (c_value_Code F11).gives (ACallI I11 Tryd.prog) xs rv outs) : ACallI I11 Tryd.prog (F11 n_value_Code) xs rv outs := acall_ofI mix11 Tryd.func47 ok11_value_Code h
theorem ok11_dot_Code : cFun Tryd.prog H_dot_Code Tryd.f48 = some (c_dot_Code F11) := by kernel_rfl
theorem a11_dot_Code {xs : List Arg} {rv : RV} {outs : List Blk} (h : (c_dot_Code F11).gives (ACallI I11 Tryd.prog) xs rv outs) : ACallI I11 Tryd.prog (F11 n_dot_Code) xs rv outs := acall_ofI mix11 Tryd.func48 ok11_dot_Code h
theorem ok11_op_Code : cFun Tryd.prog H_op_Code Tryd.f21 = some (c_op_Code F11) := by kernel_rfl
theorem a11_op_Code {xs : List Arg} {rv : RV} {outs : List Blk} (h : (c_op_Code F11).gives (ACallI I11 Tryd.prog) xs rv outs) : ACallI I11 Tryd.prog (F11 n_op_Code) xs rv outs := acall_ofI mix11 Tryd.func21 ok11_op_Code h
theorem ok11_op_Leaf : cFun Tryd.prog H_op_Leaf Tryd.f12 = some (c_op_Leaf F11) := by kernel_rfl
theorem a11_op_Leaf {xs : List Arg} {rv : RV} {outs : List Blk} (h : (c_op_Leaf F11).gives (ACallI I11 Tryd.prog) xs rv outs) : ACallI I11 Tryd.prog (F11 n_op_Leaf) xs rv outs := acall_ofI mix11 Tryd.func12 ok11_op_Leaf h
theorem ok11_plaw11_awake : cFun Tryd.prog H_plaw11_awake Tryd.f9 = some (c_plaw11_awake F11) := by kernel_rfl
theorem a11_plaw11_awake {xs : List Arg} {rv : RV} {outs : List Blk} (h : (c_plaw11_awake F11).gives (ACallI I11 Tryd.prog) xs rv outs) : ACallI I11 Tryd.prog (F11 n_plaw11_awake) xs rv outs := acall_ofI mix11 Tryd.func9 ok11_plaw11_awake h
theorem ok11_pref10_Short : cFun Tryd.prog H_pref10_Short Tryd.f30 = some (c_pref10_Short F11) := by kernel_rfl
theorem a11_pref10_Short {xs : List Arg} {rv : RV} {outs : List Blk} (h : (c_pref10_Short F11).gives (ACallI I11 Tryd.prog) xs rv outs) : ACallI I11 Tryd.prog (F11 n_pref10_Short) xs rv outs := acall_ofI mix11 Tryd.func30 ok11_pref10_Short h
theorem ok11_pref11_Short : cFun Tryd.prog H_pref11_Short Tryd.f7 = some (c_pref11_Short F11) := by kernel_rfl
theorem a11_pref11_Short {xs : List Arg} {rv : RV} {outs : List Blk} (h : (c_pref11_Short F11).gives (ACallI I11 Tryd.prog) xs rv outs) : ACallI I11 Tryd.prog (F11 n_pref11_Short) xs rv outs := acall_ofI mix11 Tryd.func7 ok11_pref11_Short h
theorem ok11_pref03_Char : cFun Tryd.prog H_pref03_Char Tryd.f88 = some (c_pref03_Char F11) := by kernel_rfl
theorem a11_pref03_Char {xs : List Arg} {rv : RV} {outs : List Blk} (h : (c_pref03_Char F11).gives (ACallI I11 Tryd.prog) xs rv outs) : ACallI I11 Tryd.prog (F11 n_pref03_Char) xs rv outs := acall_ofI mix11 Tryd.func88 ok11_pref03_Char h
theorem ok11_pref03_Runes : cFun Tryd.prog H_pref03_Runes Tryd.f69 = some (c_pref03_Runes F11) := by kernel_rfl
theorem a11_pref03_Runes {xs : List Arg} {rv : RV} {outs : List Blk} (h : (c_pref03_Runes F11).gives (ACallI I11 Tryd.prog) xs rv outs) : ACallI I11 Tryd.prog (F11 n_pref03_Runes) xs rv outs := acall_ofI mix11 Tryd.func69 ok11_pref03_Runes h
theorem ok11_pref03_may : cFun Tryd.prog H_pref03_may Tryd.f87 = some (c_pref03_may F11) := by kernel_rfl
theorem a11_pref03_may {xs : List Arg} {rv : RV} {outs : List Blk} (h : (c_pref03_may F11).gives (ACallI I11 Tryd.prog) xs rv outs) : ACallI I11 Tryd.prog (F11 n_pref03_may) xs rv outs := acall_ofI mix11 Tryd.func87 ok11_pref03_may h
theorem ok11_pref03_Right : cFun Tryd.prog H_pref03_Right Tryd.f68 = some (c_pref03_Right F11) := by kernel_rfl
theorem a11_pref03_Right {xs : List Arg} {rv : RV} {outs : List Blk} (h : (c_pref03_Right F11).gives (ACallI I11 Tryd.prog) xs rv outs) : ACallI I11 Tryd.prog (F11 n_pref03_Right) xs rv outs := acall_ofI mix11 Tryd.func68 ok11_pref03_Right h
theorem ok11_pref10_Check : cFun Tryd.prog H_pref10_Check Tryd.f31 = some (c_pref10_Check F11) := by kernel_rfl
theorem a11_pref10_Check {xs : List Arg} {rv : RV} {outs : List Blk} (h : (c_pref10_Check F11).gives (ACallI I11 Tryd.prog) xs rv outs) : ACallI I11 Tryd.prog (F11 n_pref10_Check) xs rv outs := acall_ofI mix11 Tryd.func31 ok11_pref10_Check h
theorem ok11_pref09_Right : cFun Tryd.prog H_pref09_Right Tryd.f32 = some (c_pref09_Right F11) := by kernel_rfl
theorem a11_pref09_Right {xs : List Arg} {rv : RV} {outs : List Blk} (h : (c_pref09_Right F11).gives (ACallI I11 Tryd.prog) xs rv outs) : ACallI I11 Tryd.prog (F11 n_pref09_Right) xs rv outs := acall_ofI mix11 Tryd.func32 ok11_pref09_Right h
theorem ok11_pref04_Right : cFun Tryd.prog H_pref04_Right Tryd.f39 = some (c_pref04_Right F11) := by kernel_rfl
theorem a11_pref04_Right {xs : List Arg} {rv : RV} {outs : List Blk} (h : (c_pref04_Right F11).gives (ACallI I11 Tryd.prog) xs rv outs) : ACallI I11 Tryd.prog (F11 n_pref04_Right) xs rv outs := acall_ofI mix11 Tryd.func39 ok11_pref04_Right h
theorem ok11_pref04_ints : cFun Tryd.prog H_pref04_ints Tryd.f78 = some (c_pref04_ints F11) := by kernel_rfl
theorem a11_pref04_ints {xs : List Arg} {rv : RV} {outs : List Blk} (h : (c_pref04_ints F11).gives (ACallI I11 Tryd.prog) xs rv outs) : ACallI I11 Tryd.prog (F11 n_pref04_ints) xs rv outs := acall_ofI mix11 Tryd.func78 ok11_pref04_ints h
theorem ok11_pref04_Compare : cFun Tryd.prog H_pref04_Compare Tryd.f77 = some (c_pref04_Compare F11) := by kernel_rfl
theorem a11_pref04_Compare {xs : List Arg} {rv : RV} {outs : List Blk} (h : (c_pref04_Compare F11).gives (ACallI I11 Tryd.prog) xs rv outs) : ACallI I11 Tryd.prog (F11 n_pref04_Compare) xs rv outs := acall_ofI mix11 Tryd.func77 ok11_pref04_Compare h
theorem ok11_pref04_Refs : cFun Tryd.prog H_pref04_Refs Tryd.f40 = some (c_pref04_Refs F11) := by kernel_rfl
theorem a11_pref04_Refs {xs : List Arg} {rv : RV} {outs : List Blk} (h : (c_pref04_Refs F11).gives (ACallI I11 Tryd.prog) xs rv outs) : ACallI I11 Tryd.prog (F11 n_pref04_Refs) xs rv outs := acall_ofI mix11 Tryd.func40 ok11_pref04_Refs h
theorem ok11_pref11_Refs : cFun Tryd.prog H_pref11_Refs Tryd.f15 = some (c_pref11_Refs F11) := by kernel_rfl
theorem a11_pref11_Refs {xs : List Arg} {rv : RV} {outs : List Blk} (h : (c_pref11_Refs F11).gives (ACallI I11 Tryd.prog) xs rv outs) : ACallI I11 Tryd.prog (F11 n_pref11_Refs) xs rv outs := acall_ofI mix11 Tryd.func15 ok11_pref11_Refs h
theorem ok11_pref11_Check : cFun Tryd.prog H_pref11_Check Tryd.f8 = some (c_pref11_Check F11) := by kernel_rfl
theorem a11_pref11_Check {xs : List Arg} {rv : RV} {outs : List Blk} (h : (c_pref11_Check F11).gives (ACallI I11 Tryd.prog) xs rv outs) : ACallI I11 Tryd.prog (F11 n_pref11_Check) xs rv outs := acall_ofI mix11 Tryd.func8 ok11_pref11_Check h
theorem ok11_slices_BinarySearchFunc_api_Ref_api_Ref_api_Ref : cFun Tryd.prog H_slices_BinarySearchFunc_api_Ref_api_Ref_api_Ref Tryd.f33 = some (c_slices_BinarySearchFunc_api_Ref_api_Ref_api_Ref F11) := by kernel_rfl
theorem a11_slices_BinarySearchFunc_api_Ref_api_Ref_api_Ref {xs : List Arg} {rv : RV} {outs : List Blk} (h : (c_slices_BinarySearchFunc_api_Ref_api_Ref_api_Ref F11).gives (ACallI I11 Tryd.prog) xs rv outs) : ACallI I11 Tryd.prog (F11 n_slices_BinarySearchFunc_api_Ref_api_Ref_api_Ref) xs rv outs := acall_ofI mix11 Tryd.func33 ok11_slices_BinarySearchFunc_api_Ref_api_Ref_api_Ref h
theorem ok11_op_Covers : cFun Tryd.prog H_op_Covers Tryd.f10 = some (c_op_Covers F11) := by kernel_rfl
theorem a11_op_Covers {xs : List Arg} {rv : RV} {outs : List Blk} (h : (c_op_Covers F11).gives (ACallI I11 Tryd.prog) xs rv outs) : ACallI I11 Tryd.prog (F11 n_op_Covers) xs rv outs := acall_ofI mix11 Tryd.func10 ok11_op_Covers h
theorem ok11_plaw11_OpNames : cFun Tryd.prog H_plaw11_OpNames Tryd.f3 = some (c_plaw11_OpNames F11) := by kernel_rfl
theorem a11_plaw11_OpNames {xs : List Arg} {rv : RV} {outs : List Blk} (h : (c_plaw11_OpNames F11).gives (ACallI I11 Tryd.prog) xs rv outs) : ACallI I11 Tryd.prog (F11 n_plaw11_OpNames) xs rv outs := acall_ofI mix11 Tryd.func3 ok11_plaw11_OpNames h
theorem ok11_pref11_Leaf : cFun Tryd.prog H_pref11_Leaf Tryd.f13 = some (c_pref11_Leaf F11) := by kernel_rfl
theorem a11_pref11_Leaf {xs : List Arg} {rv : RV} {outs : List Blk} (h : (c_pref11_Leaf F11).gives (ACallI I11 Tryd.prog) xs rv outs) : ACallI I11 Tryd.prog (F11 n_pref11_Leaf) xs rv outs := acall_ofI mix11 Tryd.func13 ok11_pref11_Leaf h
theorem ok11_slices_Equal_string_string : cFun Tryd.prog H_slices_Equal_string_string Tryd.f41 = some (c_slices_Equal_string_string F11) := by kernel_rfl
theorem a11_slices_Equal_string_string {xs : List Arg} {rv : RV} {outs : List Blk} (h : (c_slices_Equal_string_string F11).gives (ACallI I11 Tryd.prog) xs rv outs) : ACallI I11 Tryd.prog (F11 n_slices_Equal_string_string) xs rv outs := acall_ofI mix11 Tryd.func41 ok11_slices_Equal_string_string h
theorem ok11_slices_Equal_api_Ref_api_Ref : cFun Tryd.prog H_slices_Equal_api_Ref_api_Ref Tryd.f42 = some (c_slices_Equal_api_Ref_api_Ref F11) := by kernel_rfl
theorem a11_slices_Equal_api_Ref_api_Ref {xs : List Arg} {rv : RV} {outs : List Blk} (h : (c_slices_Equal_api_Ref_api_Ref F11).gives (ACallI I11 Tryd.prog) xs rv outs) : ACallI I11 Tryd.prog (F11 n_slices_Equal_api_Ref_api_Ref) xs rv outs := acall_ofI mix11 Tryd.func42 ok11_slices_Equal_api_Ref_api_Ref h
theorem ok11_op_Same : cFun Tryd.prog H_op_Same Tryd.f16 = some (c_op_Same F11) := by kernel_rfl
theorem a11_op_Same {xs : List Arg} {rv : RV} {outs : List Blk} (h : (c_op_Same F11).gives (ACallI I11 Tryd.prog) xs rv outs) : ACallI I11 Tryd.prog (F11 n_op_Same) xs rv outs := acall_ofI mix11 Tryd.func16 ok11_op_Same h
theorem ok11_pref03_Same : cFun Tryd.prog H_pref03_Same Tryd.f43 = some (c_pref03_Same F11) := by kernel_rfl
theorem a11_pref03_Same {xs : List Arg} {rv : RV} {outs : List Blk} (h : (c_pref03_Same F11).gives (ACallI I11 Tryd.prog) xs rv outs) : ACallI I11 Tryd.prog (F11 n_pref03_Same) xs rv outs := acall_ofI mix11 Tryd.func43 ok11_pref03_Same h
theorem ok11_pref11_Same : cFun Tryd.prog H_pref11_Same Tryd.f17 = some (c_pref11_Same F11) := by kernel_rfl
theorem a11_pref11_Same {xs : List Arg} {rv : RV} {outs : List Blk} (h : (c_pref11_Same F11).gives (ACallI I11 Tryd.prog) xs rv outs) : ACallI I11 Tryd.prog (F11 n_pref11_Same) xs rv outs := acall_ofI mix11 Tryd.func17 ok11_pref11_Same h
theorem ok11_pref11_Gone : cFun Tryd.prog H_pref11_Gone Tryd.f19 = some (c_pref11_Gone F11) := by kernel_rfl
theorem a11_pref11_Gone {xs : List Arg} {rv : RV} {outs : List Blk} (h : (c_pref11_Gone F11).gives (ACallI I11 Tryd.prog) xs rv outs) : ACallI I11 Tryd.prog (F11 n_pref11_Gone) xs rv outs := acall_ofI mix11 Tryd.func19 ok11_pref11_Gone h
theorem ok11_pref11_Covers : cFun Tryd.prog H_pref11_Covers Tryd.f20 = some (c_pref11_Covers F11) := by kernel_rfl
theorem a11_pref11_Covers {xs : List Arg} {rv : RV} {outs : List Blk} (h : (c_pref11_Covers F11).gives (ACallI I11 Tryd.prog) xs rv outs) : ACallI I11 Tryd.prog (F11 n_pref11_Covers) xs rv outs := acall_ofI mix11 Tryd.func20 ok11_pref11_Covers h
theorem ok11_pref02_Int : cFun Tryd.prog H_pref02_Int Tryd.f49 = some (c_pref02_Int F11) := by kernel_rfl
theorem a11_pref02_Int {xs : List Arg} {rv : RV} {outs : List Blk} (h : (c_pref02_Int F11).gives (ACallI I11 Tryd.prog) xs rv outs) : ACallI I11 Tryd.prog (F11 n_pref02_Int) xs rv outs := acall_ofI mix11 Tryd.func49 ok11_pref02_Int h
theorem ok11_pref02_Text : cFun Tryd.prog H_pref02_Text Tryd.f82 = some (c_pref02_Text F11) := by kernel_rfl
theorem a11_pref02_Text {xs : List Arg} {rv : RV} {outs : List Blk} (h : (c_pref02_Text F11).gives (ACallI I11 Tryd.prog) xs rv outs) : ACallI I11 Tryd.prog (F11 n_pref02_Text) xs rv outs := acall_ofI mix11 Tryd.func82 ok11_pref02_Text h
theorem ok11_pref10_Code : cFun Tryd.prog H_pref10_Code Tryd.f50 = some (c_pref10_Code F11) := by kernel_rfl
theorem a11_pref10_Code {xs : List Arg} {rv : RV} {outs : List Blk} (h : (c_pref10_Code F11).gives (ACallI I11 Tryd.prog) xs rv outs) : ACallI I11 Tryd.prog (F11 n_pref10_Code) xs rv outs := acall_ofI mix11 Tryd.func50 ok11_pref10_Code h
theorem ok11_pref09_Fold : cFun Tryd.prog H_pref09_Fold Tryd.f51 = some (c_pref09_Fold F11) := by kernel_rfl
theorem a11_pref09_Fold {xs : List Arg} {rv : RV} {outs : List Blk} (h : (c_pref09_Fold F11).gives (ACallI I11 Tryd.prog) xs rv outs) : ACallI I11 Tryd.prog (F11 n_pref09_Fold) xs rv outs := acall_ofI mix11 Tryd.func51 ok11_pref09_Fold h
theorem ok11_pref09_Code : cFun Tryd.prog H_pref09_Code Tryd.f52 = some (c_pref09_Code F11) := by kernel_rfl
theorem a11_pref09_Code {xs : List Arg} {rv : RV} {outs : List Blk} (h : (c_pref09_Code F11).gives (ACallI I11 Tryd.prog) xs rv outs) : ACallI I11 Tryd.prog (F11 n_pref09_Code) xs rv outs := acall_ofI mix11 Tryd.func52 ok11_pref09_Code h
theorem ok11_pref04_Code : cFun Tryd.prog H_pref04_Code Tryd.f53 = some (c_pref04_Code F11) := by kernel_rfl
theorem a11_pref04_Code {xs : List Arg} {rv : RV} {outs : List Blk} (h : (c_pref04_Code F11).gives (ACallI I11 Tryd.prog) xs rv outs) : ACallI I11 Tryd.prog (F11 n_pref04_Code) xs rv outs := acall_ofI mix11 Tryd.func53 ok11_pref04_Code h
theorem ok11_pref11_Code : cFun Tryd.prog H_pref11_Code Tryd.f22 = some (c_pref11_Code F11) := by kernel_rfl
theorem a11_pref11_Code {xs : List Arg} {rv : RV} {outs : List Blk} (h : (c_pref11_Code F11).gives (ACallI I11 Tryd.prog) xs rv outs) : ACallI I11 Tryd.prog (F11 n_pref11_Code) xs rv outs := acall_ofI mix11 Tryd.func22 ok11_pref11_Code h
theorem ok11_plaw11_OpTells : cFun Tryd.prog H_plaw11_OpTells Tryd.f4 = some (c_plaw11_OpTells F11) := by kernel_rfl
theorem a11_plaw11_OpTells {xs : List Arg} {rv : RV} {outs : List Blk} (h : (c_plaw11_OpTells F11).gives (ACallI I11 Tryd.prog) xs rv outs) : ACallI I11 Tryd.prog (F11 n_plaw11_OpTells) xs rv outs := acall_ofI mix11 Tryd.func4 ok11_plaw11_OpTells h
theorem ok11_pack_Open : cFun Tryd.prog H_pack_Open Tryd.f23 = some (c_pack_Open F11) := by kernel_rfl
theorem a11_pack_Open {xs : List Arg} {rv : RV} {outs : List Blk} (h : (c_pack_Open F11).gives (ACallI I11 Tryd.prog) xs rv outs) : ACallI I11 Tryd.prog (F11 n_pack_Open) xs rv outs := acall_ofI mix11 Tryd.func23 ok11_pack_Open h
theorem ok11_pack_Reader_fine : cFun Tryd.prog H_pack_Reader_fine Tryd.f67 = some (c_pack_Reader_fine F11) := by kernel_rfl
theorem a11_pack_Reader_fine {xs : List Arg} {rv : RV} {outs : List Blk} (h : (c_pack_Reader_fine F11).gives (ACallI I11 Tryd.prog) xs rv outs) : ACallI I11 Tryd.prog (F11 n_pack_Reader_fine) xs rv outs := acall_ofI mix11 Tryd.func67 ok11_pack_Reader_fine h
theorem ok11_pack_Reader_Fail : cFun Tryd.prog H_pack_Reader_Fail Tryd.f59 = some (c_pack_Reader_Fail F11) := by kernel_rfl
theorem a11_pack_Reader_Fail {xs : List Arg} {rv : RV} {outs : List Blk} (h : (c_pack_Reader_Fail F11).gives (ACallI I11 Tryd.prog) xs rv outs) : ACallI I11 Tryd.prog (F11 n_pack_Reader_Fail) xs rv outs := acall_ofI mix11 Tryd.func59 ok11_pack_Reader_Fail h
theorem ok11_pack_Reader_Int : cFun Tryd.prog H_pack_Reader_Int Tryd.f54 = some (c_pack_Reader_Int F11) := by kernel_rfl
theorem a11_pack_Reader_Int {xs : List Arg} {rv : RV} {outs : List Blk} (h : (c_pack_Reader_Int F11).gives (ACallI I11 Tryd.prog) xs rv outs) : ACallI I11 Tryd.prog (F11 n_pack_Reader_Int) xs rv outs := acall_ofI mix11 Tryd.func54 ok11_pack_Reader_Int h
theorem ok11_pack_Reader_Many : cFun Tryd.prog H_pack_Reader_Many Tryd.f83 = some (c_pack_Reader_Many F11) := by kernel_rfl
theorem a11_pack_Reader_Many {xs : List Arg} {rv : RV} {outs : List Blk} (h : (c_pack_Reader_Many F11).gives (ACallI I11 Tryd.prog) xs rv outs) : ACallI I11 Tryd.prog (F11 n_pack_Reader_Many) xs rv outs := acall_ofI mix11 Tryd.func83 ok11_pack_Reader_Many h
theorem ok11_pack_Reader_Text : cFun Tryd.prog H_pack_Reader_Text Tryd.f84 = some (c_pack_Reader_Text F11) := by kernel_rfl
theorem a11_pack_Reader_Text {xs : List Arg} {rv : RV} {outs : List Blk} (h : (c_pack_Reader_Text F11).gives (ACallI I11 Tryd.prog) xs rv outs) : ACallI I11 Tryd.prog (F11 n_pack_Reader_Text) xs rv outs := acall_ofI mix11 Tryd.func84 ok11_pack_Reader_Text h
theorem ok11_pack_Reader_Fault : cFun Tryd.prog H_pack_Reader_Fault Tryd.f26 = some (c_pack_Reader_Fault F11) := by kernel_rfl
theorem a11_pack_Reader_Fault {xs : List Arg} {rv : RV} {outs : List Blk} (h : (c_pack_Reader_Fault F11).gives (ACallI I11 Tryd.prog) xs rv outs) : ACallI I11 Tryd.prog (F11 n_pack_Reader_Fault) xs rv outs := acall_ofI mix11 Tryd.func26 ok11_pack_Reader_Fault h
theorem ok11_path_Read : cFun Tryd.prog H_path_Read Tryd.f55 = some (c_path_Read F11) := by kernel_rfl
theorem a11_path_Read {xs : List Arg} {rv : RV} {outs : List Blk} (h : (c_path_Read F11).gives (ACallI I11 Tryd.prog) xs rv outs) : ACallI I11 Tryd.prog (F11 n_path_Read) xs rv outs := acall_ofI mix11 Tryd.func55 ok11_path_Read h
theorem ok11_value_Unfold : cFun Tryd.prog H_value_Unfold Tryd.f56 = some (c_value_Unfold F11) := by kernel_rfl
theorem a11_value_Unfold {xs : List Arg} {rv : RV} {outs : List Blk} (h : (c_value_Unfold F11).gives (ACallI I11 Tryd.prog) xs rv outs) : ACallI I11 Tryd.prog (F11 n_value_Unfold) xs rv outs := acall_ofI mix11 Tryd.func56 ok11_value_Unfold h
theorem ok11_value_Read : cFun Tryd.prog H_value_Read Tryd.f57 = some (c_value_Read F11) := by kernel_rfl
theorem a11_value_Read {xs : List Arg} {rv : RV} {outs : List Blk} (h : (c_value_Read F11).gives (ACallI I11 Tryd.prog) xs rv outs) : ACallI I11 Tryd.prog (F11 n_value_Read) xs rv outs := acall_ofI mix11 Tryd.func57 ok11_value_Read h
theorem ok11_dot_Read : cFun Tryd.prog H_dot_Read Tryd.f85 = some (c_dot_Read F11) := by kernel_rfl
theorem a11_dot_Read {xs : List Arg} {rv : RV} {outs : List Blk} (h : (c_dot_Read F11).gives (ACallI I11 Tryd.prog) xs rv outs) : ACallI I11 Tryd.prog (F11 n_dot_Read) xs rv outs := acall_ofI mix11 Tryd.func85 ok11_dot_Read h
theorem ok11_op_seen : cFun Tryd.prog H_op_seen Tryd.f58 = some (c_op_seen F11) := by kernel_rfl
theorem a11_op_seen {xs : List Arg} {rv : RV} {outs : List Blk} (h : (c_op_seen F11).gives (ACallI I11 Tryd.prog) xs rv outs) : ACallI I11 Tryd.prog (F11 n_op_seen) xs rv outs := acall_ofI mix11 Tryd.func58 ok11_op_seen h
theorem ok11_op_Read : cFun Tryd.prog H_op_Read Tryd.f24 = some (c_op_Read F11) := by kernel_rfl
theorem a11_op_Read {xs : List Arg} {rv : RV} {outs : List Blk} (h : (c_op_Read F11).gives (ACallI I11 Tryd.prog) xs rv outs) : ACallI I11 Tryd.prog (F11 n_op_Read) xs rv outs := acall_ofI mix11 Tryd.func24 ok11_op_Read h
theorem ok11_pack_Reader_Left : cFun Tryd.prog H_pack_Reader_Left Tryd.f27 = some (c_pack_Reader_Left F11) := by kernel_rfl
theorem a11_pack_Reader_Left {xs : List Arg} {rv : RV} {outs : List Blk} (h : (c_pack_Reader_Left F11).gives (ACallI I11 Tryd.prog) xs rv outs) : ACallI I11 Tryd.prog (F11 n_pack_Reader_Left) xs rv outs := acall_ofI mix11 Tryd.func27 ok11_pack_Reader_Left h
theorem ok11_pack_Reader_End : cFun Tryd.prog H_pack_Reader_End Tryd.f29 = some (c_pack_Reader_End F11) := by kernel_rfl
theorem a11_pack_Reader_End {xs : List Arg} {rv : RV} {outs : List Blk} (h : (c_pack_Reader_End F11).gives (ACallI I11 Tryd.prog) xs rv outs) : ACallI I11 Tryd.prog (F11 n_pack_Reader_End) xs rv outs := acall_ofI mix11 Tryd.func29 ok11_pack_Reader_End h
theorem ok11_plaw11_OpBack : cFun Tryd.prog H_plaw11_OpBack Tryd.f6 = some (c_plaw11_OpBack F11) := by kernel_rfl
theorem a11_plaw11_OpBack {xs : List Arg} {rv : RV} {outs : List Blk} (h : (c_plaw11_OpBack F11).gives (ACallI I11 Tryd.prog) xs rv outs) : ACallI I11 Tryd.prog (F11 n_plaw11_OpBack) xs rv outs := acall_ofI mix11 Tryd.func6 ok11_plaw11_OpBack h
theorem ok11_pref02_Reader_Int : cFun Tryd.prog H_pref02_Reader_Int Tryd.f60 = some (c_pref02_Reader_Int F11) := by kernel_rfl
theorem a11_pref02_Reader_Int {xs : List Arg} {rv : RV} {outs : List Blk} (h : (c_pref02_Reader_Int F11).gives (ACallI I11 Tryd.prog) xs rv outs) : ACallI I11 Tryd.prog (F11 n_pref02_Reader_Int) xs rv outs := acall_ofI mix11 Tryd.func60 ok11_pref02_Reader_Int h
theorem ok11_pref02_Reader_Many : cFun Tryd.prog H_pref02_Reader_Many Tryd.f64 = some (c_pref02_Reader_Many F11) := by kernel_rfl
theorem a11_pref02_Reader_Many {xs : List Arg} {rv : RV} {outs : List Blk} (h : (c_pref02_Reader_Many F11).gives (ACallI I11 Tryd.prog) xs rv outs) : ACallI I11 Tryd.prog (F11 n_pref02_Reader_Many) xs rv outs := acall_ofI mix11 Tryd.func64 ok11_pref02_Reader_Many h
theorem ok11_pref02_Reader_Text : cFun Tryd.prog H_pref02_Reader_Text Tryd.f86 = some (c_pref02_Reader_Text F11) := by kernel_rfl
theorem a11_pref02_Reader_Text {xs : List Arg} {rv : RV} {outs : List Blk} (h : (c_pref02_Reader_Text F11).gives (ACallI I11 Tryd.prog) xs rv outs) : ACallI I11 Tryd.prog (F11 n_pref02_Reader_Text) xs rv outs := acall_ofI mix11 Tryd.func86 ok11_pref02_Reader_Text h
theorem ok11_pref02_Reader_Fail : cFun Tryd.prog H_pref02_Reader_Fail Tryd.f66 = some (c_pref02_Reader_Fail F11) := by kernel_rfl
theorem a11_pref02_Reader_Fail {xs : List Arg} {rv : RV} {outs : List Blk} (h : (c_pref02_Reader_Fail F11).gives (ACallI I11 Tryd.prog) xs rv outs) : ACallI I11 Tryd.prog (F11 n_pref02_Reader_Fail) xs rv outs := acall_ofI mix11 Tryd.func66 ok11_pref02_Reader_Fail h
theorem ok11_pref10_Read : cFun Tryd.prog H_pref10_Read Tryd.f61 = some (c_pref10_Read F11) := by kernel_rfl
theorem a11_pref10_Read {xs : List Arg} {rv : RV} {outs : List Blk} (h : (c_pref10_Read F11).gives (ACallI I11 Tryd.prog) xs rv outs) : ACallI I11 Tryd.prog (F11 n_pref10_Read) xs rv outs := acall_ofI mix11 Tryd.func61 ok11_pref10_Read h
theorem ok11_pref09_Unfold : cFun Tryd.prog H_pref09_Unfold Tryd.f62 = some (c_pref09_Unfold F11) := by kernel_rfl
theorem a11_pref09_Unfold {xs : List Arg} {rv : RV} {outs : List Blk} (h : (c_pref09_Unfold F11).gives (ACallI I11 Tryd.prog) xs rv outs) : ACallI I11 Tryd.prog (F11 n_pref09_Unfold) xs rv outs := acall_ofI mix11 Tryd.func62 ok11_pref09_Unfold h
theorem ok11_pref09_Read : cFun Tryd.prog H_pref09_Read Tryd.f63 = some (c_pref09_Read F11) := by kernel_rfl
theorem a11_pref09_Read {xs : List Arg} {rv : RV} {outs : List Blk} (h : (c_pref09_Read F11).gives (ACallI I11 Tryd.prog) xs rv outs) : ACallI I11 Tryd.prog (F11 n_pref09_Read) xs rv outs := acall_ofI mix11 Tryd.func63 ok11_pref09_Read h
theorem ok11_pref04_Read : cFun Tryd.prog H_pref04_Read Tryd.f65 = some (c_pref04_Read F11) := by kernel_rfl
theorem a11_pref04_Read {xs : List Arg} {rv : RV} {outs : List Blk} (h : (c_pref04_Read F11).gives (ACallI I11 Tryd.prog) xs rv outs) : ACallI I11 Tryd.prog (F11 n_pref04_Read) xs rv outs := acall_ofI mix11 Tryd.func65 ok11_pref04_Read h
theorem ok11_pref11_Read : cFun Tryd.prog H_pref11_Read Tryd.f25 = some (c_pref11_Read F11) := by kernel_rfl
theorem a11_pref11_Read {xs : List Arg} {rv : RV} {outs : List Blk} (h : (c_pref11_Read F11).gives (ACallI I11 Tryd.prog) xs rv outs) : ACallI I11 Tryd.prog (F11 n_pref11_Read) xs rv outs := acall_ofI mix11 Tryd.func25 ok11_pref11_Read h
theorem ok11_pref02_Reader_Left : cFun Tryd.prog H_pref02_Reader_Left Tryd.f28 = some (c_pref02_Reader_Left F11) := by kernel_rfl
theorem a11_pref02_Reader_Left {xs : List Arg} {rv : RV} {outs : List Blk} (h : (c_pref02_Reader_Left F11).gives (ACallI I11 Tryd.prog) xs rv outs) : ACallI I11 Tryd.prog (F11 n_pref02_Reader_Left) xs rv outs := acall_ofI mix11 Tryd.func28 ok11_pref02_Reader_Left h
theorem ok11_plaw11_OpReads : cFun Tryd.prog H_plaw11_OpReads Tryd.f5 = some (c_plaw11_OpReads F11) := by kernel_rfl
theorem a11_plaw11_OpReads {xs : List Arg} {rv : RV} {outs : List Blk} (h : (c_plaw11_OpReads F11).gives (ACallI I11 Tryd.prog) xs rv outs) : ACallI I11 Tryd.prog (F11 n_plaw11_OpReads) xs rv outs := acall_ofI mix11 Tryd.func5 ok11_plaw11_OpReads h
end Go.AR
