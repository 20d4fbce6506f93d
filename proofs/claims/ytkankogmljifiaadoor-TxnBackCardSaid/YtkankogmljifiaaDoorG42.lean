import Derived.Test.YtkankogmljifiaaDoorG26
import Derived.Test.YtkankogmljifiaaDoorG03
import Derived.Test.YtkankogmljifiaaDoorG25
import Derived.Test.YtkankogmljifiaaDoorG27
import Derived.Test.YtkankogmljifiaaDoorG05
import Derived.Test.YtkankogmljifiaaDoorG09
import Derived.Test.YtkankogmljifiaaDoorG04
import Derived.Test.YtkankogmljifiaaDoorG36
import Derived.Test.YtkankogmljifiaaDoorG02
import Derived.Test.YtkankogmljifiaaDoorChecked
import Derived.KernelRfl
set_option linter.all false
/-! The seat: which function is which. Printed by program. -/
namespace Go.AR
open Go Go.Proofs
def F12 : Nat → FuncId := fun i => (get [(21, 43), (22, 54), (23, 0), (24, 1), (25, 2), (42, 128), (43, 129), (44, 130), (45, 131), (46, 132), (47, 133), (48, 134), (49, 135), (50, 136), (51, 137), (52, 138), (53, 139), (54, 140), (55, 141), (56, 142), (57, 145), (93, 38), (94, 57), (97, 114), (98, 115), (100, 26), (101, 65), (102, 117), (103, 30), (104, 29), (105, 37), (107, 66), (108, 67), (109, 5), (110, 102), (111, 88), (112, 89), (113, 74), (114, 113), (115, 144), (124, 87), (129, 70), (130, 143), (131, 31), (132, 72), (133, 118), (134, 71), (163, 49), (166, 48), (167, 84), (171, 47), (172, 46), (174, 83), (183, 122), (184, 106), (185, 110), (186, 105), (190, 126), (191, 123), (192, 120), (193, 119), (194, 127), (200, 75), (205, 79), (206, 76), (211, 90), (212, 93), (214, 98), (215, 102), (218, 85), (219, 108), (220, 109), (224, 121), (230, 124), (232, 146), (233, 147), (234, 148), (235, 149), (236, 150), (238, 39), (239, 41), (243, 45), (246, 82), (247, 78), (248, 51), (249, 52), (250, 44), (251, 42), (253, 55), (254, 58), (256, 68), (257, 73), (259, 77), (261, 112), (262, 80), (263, 81), (264, 107), (265, 86), (266, 91), (267, 92), (268, 53), (269, 94), (270, 95), (271, 56), (272, 99), (273, 100), (274, 101), (275, 103), (276, 104), (277, 69), (278, 111), (279, 64), (280, 3), (281, 8), (282, 9), (283, 10), (284, 11), (285, 12), (286, 13), (287, 14), (288, 15), (289, 16), (290, 17), (291, 4), (292, 18), (293, 19), (294, 20), (295, 21), (296, 5), (297, 22), (298, 23), (299, 24), (300, 25), (301, 6), (302, 27), (303, 28), (304, 32), (305, 33), (306, 7), (307, 34), (308, 35), (309, 36), (310, 40), (311, 50), (312, 59), (313, 60), (314, 62), (315, 61), (316, 63), (317, 96), (318, 97), (319, 116), (320, 125)] i).getD 0
def I12 : Inv := utfInv 0 1
abbrev C12 : CallRel := ACallI I12 Tryd.prog
theorem mix12 : Tryd.prog.follows .mixedOrders = true := by kernel_rfl
end Go.AR

namespace Go.AR
open Go Go.Proofs
theorem ok12_plaw12_one : cFun Tryd.prog H_plaw12_one Tryd.f40 = some (c_plaw12_one F12) := by kernel_rfl
theorem a12_plaw12_one {xs : List Arg} {rv : RV} {outs : List Blk} (h : (c_plaw12_one F12).gives (ACallI I12 Tryd.prog) xs rv outs) : ACallI I12 Tryd.prog (F12 n_plaw12_one) xs rv outs := acall_ofI mix12 Tryd.func40 ok12_plaw12_one h
theorem ok12_dot_Right : cFun Tryd.prog H_dot_Right Tryd.f43 = some (c_dot_Right F12) := by kernel_rfl
theorem a12_dot_Right {xs : List Arg} {rv : RV} {outs : List Blk} (h : (c_dot_Right F12).gives (ACallI I12 Tryd.prog) xs rv outs) : ACallI I12 Tryd.prog (F12 n_dot_Right) xs rv outs := acall_ofI mix12 Tryd.func43 ok12_dot_Right h
theorem ok12_op_Gone : cFun Tryd.prog H_op_Gone Tryd.f44 = some (c_op_Gone F12) := by kernel_rfl
theorem a12_op_Gone {xs : List Arg} {rv : RV} {outs : List Blk} (h : (c_op_Gone F12).gives (ACallI I12 Tryd.prog) xs rv outs) : ACallI I12 Tryd.prog (F12 n_op_Gone) xs rv outs := acall_ofI mix12 Tryd.func44 ok12_op_Gone h
theorem ok12_slices_IndexFunc_string_string : cFun Tryd.prog H_slices_IndexFunc_string_string Tryd.f121 = some (c_slices_IndexFunc_string_string F12) := by kernel_rfl
theorem a12_slices_IndexFunc_string_string {xs : List Arg} {rv : RV} {outs : List Blk} (h : (c_slices_IndexFunc_string_string F12).gives (ACallI I12 Tryd.prog) xs rv outs) : ACallI I12 Tryd.prog (F12 n_slices_IndexFunc_string_string) xs rv outs := acall_ofI mix12 Tryd.func121 ok12_slices_IndexFunc_string_string h
theorem ok12_slices_ContainsFunc_string_string : cFun Tryd.prog H_slices_ContainsFunc_string_string Tryd.f108 = some (c_slices_ContainsFunc_string_string F12) := by kernel_rfl
theorem a12_slices_ContainsFunc_string_string {xs : List Arg} {rv : RV} {outs : List Blk} (h : (c_slices_ContainsFunc_string_string F12).gives (ACallI I12 Tryd.prog) xs rv outs) : ACallI I12 Tryd.prog (F12 n_slices_ContainsFunc_string_string) xs rv outs := acall_ofI mix12 Tryd.func108 ok12_slices_ContainsFunc_string_string h
theorem ok12_unicode_utf8_DecodeRuneInString : cFun Tryd.prog H_unicode_utf8_DecodeRuneInString Tryd.f126 = some (c_unicode_utf8_DecodeRuneInString F12) := by kernel_rfl
theorem a12_unicode_utf8_DecodeRuneInString {xs : List Arg} {rv : RV} {outs : List Blk} (h : (c_unicode_utf8_DecodeRuneInString F12).gives (ACallI I12 Tryd.prog) xs rv outs) : ACallI I12 Tryd.prog (F12 n_unicode_utf8_DecodeRuneInString) xs rv outs := acall_ofI mix12 Tryd.func126 ok12_unicode_utf8_DecodeRuneInString h
theorem ok12_name_Runes : cFun Tryd.prog H_name_Runes Tryd.f122 = some (c_name_Runes F12) := by kernel_rfl
theorem a12_name_Runes {xs : List Arg} {rv : RV} {outs : List Blk} (h : (c_name_Runes F12).gives (ACallI I12 Tryd.prog) xs rv outs) : ACallI I12 Tryd.prog (F12 n_name_Runes) xs rv outs := acall_ofI mix12 Tryd.func122 ok12_name_Runes h
theorem ok12_name_may : cFun Tryd.prog H_name_may Tryd.f123 = some (c_name_may F12) := by kernel_rfl
theorem a12_name_may {xs : List Arg} {rv : RV} {outs : List Blk} (h : (c_name_may F12).gives (ACallI I12 Tryd.prog) xs rv outs) : ACallI I12 Tryd.prog (F12 n_name_may) xs rv outs := acall_ofI mix12 Tryd.func123 ok12_name_may h
theorem ok12_name_Right : cFun Tryd.prog H_name_Right Tryd.f110 = some (c_name_Right F12) := by kernel_rfl
theorem a12_name_Right {xs : List Arg} {rv : RV} {outs : List Blk} (h : (c_name_Right F12).gives (ACallI I12 Tryd.prog) xs rv outs) : ACallI I12 Tryd.prog (F12 n_name_Right) xs rv outs := acall_ofI mix12 Tryd.func110 ok12_name_Right h
theorem ok12_path_Check_1 : cFun Tryd.prog H_path_Check_1 Tryd.f109 = some (c_path_Check_1 F12) := by kernel_rfl
theorem a12_path_Check_1 {xs : List Arg} {rv : RV} {outs : List Blk} (h : (c_path_Check_1 F12).gives (ACallI I12 Tryd.prog) xs rv outs) : ACallI I12 Tryd.prog (F12 n_path_Check_1) xs rv outs := acall_ofI mix12 Tryd.func109 ok12_path_Check_1 h
theorem ok12_path_Check : cFun Tryd.prog H_path_Check Tryd.f79 = some (c_path_Check F12) := by kernel_rfl
theorem a12_path_Check {xs : List Arg} {rv : RV} {outs : List Blk} (h : (c_path_Check F12).gives (ACallI I12 Tryd.prog) xs rv outs) : ACallI I12 Tryd.prog (F12 n_path_Check) xs rv outs := acall_ofI mix12 Tryd.func79 ok12_path_Check h
theorem ok12_value_Right : cFun Tryd.prog H_value_Right Tryd.f111 = some (c_value_Right F12) := by kernel_rfl
theorem a12_value_Right {xs : List Arg} {rv : RV} {outs : List Blk} (h : (c_value_Right F12).gives (ACallI I12 Tryd.prog) xs rv outs) : ACallI I12 Tryd.prog (F12 n_value_Right) xs rv outs := acall_ofI mix12 Tryd.func111 ok12_value_Right h
theorem ok12_op_valued : cFun Tryd.prog H_op_valued Tryd.f80 = some (c_op_valued F12) := by kernel_rfl
theorem a12_op_valued {xs : List Arg} {rv : RV} {outs : List Blk} (h : (c_op_valued F12).gives (ACallI I12 Tryd.prog) xs rv outs) : ACallI I12 Tryd.prog (F12 n_op_valued) xs rv outs := acall_ofI mix12 Tryd.func80 ok12_op_valued h
theorem ok12_op_amount : cFun Tryd.prog H_op_amount Tryd.f81 = some (c_op_amount F12) := by kernel_rfl
theorem a12_op_amount {xs : List Arg} {rv : RV} {outs : List Blk} (h : (c_op_amount F12).gives (ACallI I12 Tryd.prog) xs rv outs) : ACallI I12 Tryd.prog (F12 n_op_amount) xs rv outs := acall_ofI mix12 Tryd.func81 ok12_op_amount h
theorem ok12_cmp_isNaN_int : cFun Tryd.prog H_cmp_isNaN_int Tryd.f83 = some (c_cmp_isNaN_int F12) := by kernel_rfl
theorem a12_cmp_isNaN_int {xs : List Arg} {rv : RV} {outs : List Blk} (h : (c_cmp_isNaN_int F12).gives (ACallI I12 Tryd.prog) xs rv outs) : ACallI I12 Tryd.prog (F12 n_cmp_isNaN_int) xs rv outs := acall_ofI mix12 Tryd.func83 ok12_cmp_isNaN_int h
theorem ok12_cmp_Compare_int : cFun Tryd.prog H_cmp_Compare_int Tryd.f47 = some (c_cmp_Compare_int F12) := by kernel_rfl
theorem a12_cmp_Compare_int {xs : List Arg} {rv : RV} {outs : List Blk} (h : (c_cmp_Compare_int F12).gives (ACallI I12 Tryd.prog) xs rv outs) : ACallI I12 Tryd.prog (F12 n_cmp_Compare_int) xs rv outs := acall_ofI mix12 Tryd.func47 ok12_cmp_Compare_int h
theorem ok12_cmp_Or_int : cFun Tryd.prog H_cmp_Or_int Tryd.f46 = some (c_cmp_Or_int F12) := by kernel_rfl
theorem a12_cmp_Or_int {xs : List Arg} {rv : RV} {outs : List Blk} (h : (c_cmp_Or_int F12).gives (ACallI I12 Tryd.prog) xs rv outs) : ACallI I12 Tryd.prog (F12 n_cmp_Or_int) xs rv outs := acall_ofI mix12 Tryd.func46 ok12_cmp_Or_int h
theorem ok12_dot_Compare : cFun Tryd.prog H_dot_Compare Tryd.f48 = some (c_dot_Compare F12) := by kernel_rfl
theorem a12_dot_Compare {xs : List Arg} {rv : RV} {outs : List Blk} (h : (c_dot_Compare F12).gives (ACallI I12 Tryd.prog) xs rv outs) : ACallI I12 Tryd.prog (F12 n_dot_Compare) xs rv outs := acall_ofI mix12 Tryd.func48 ok12_dot_Compare h
theorem ok12_dot_Refs : cFun Tryd.prog H_dot_Refs Tryd.f112 = some (c_dot_Refs F12) := by kernel_rfl
theorem a12_dot_Refs {xs : List Arg} {rv : RV} {outs : List Blk} (h : (c_dot_Refs F12).gives (ACallI I12 Tryd.prog) xs rv outs) : ACallI I12 Tryd.prog (F12 n_dot_Refs) xs rv outs := acall_ofI mix12 Tryd.func112 ok12_dot_Refs h
theorem ok12_op_Refs : cFun Tryd.prog H_op_Refs Tryd.f82 = some (c_op_Refs F12) := by kernel_rfl
theorem a12_op_Refs {xs : List Arg} {rv : RV} {outs : List Blk} (h : (c_op_Refs F12).gives (ACallI I12 Tryd.prog) xs rv outs) : ACallI I12 Tryd.prog (F12 n_op_Refs) xs rv outs := acall_ofI mix12 Tryd.func82 ok12_op_Refs h
theorem ok12_op_Check : cFun Tryd.prog H_op_Check Tryd.f45 = some (c_op_Check F12) := by kernel_rfl
theorem a12_op_Check {xs : List Arg} {rv : RV} {outs : List Blk} (h : (c_op_Check F12).gives (ACallI I12 Tryd.prog) xs rv outs) : ACallI I12 Tryd.prog (F12 n_op_Check) xs rv outs := acall_ofI mix12 Tryd.func45 ok12_op_Check h
theorem ok12_txn_Check : cFun Tryd.prog H_txn_Check Tryd.f11 = some (c_txn_Check F12) := by kernel_rfl
theorem a12_txn_Check {xs : List Arg} {rv : RV} {outs : List Blk} (h : (c_txn_Check F12).gives (ACallI I12 Tryd.prog) xs rv outs) : ACallI I12 Tryd.prog (F12 n_txn_Check) xs rv outs := acall_ofI mix12 Tryd.func11 ok12_txn_Check h
theorem ok12_txn_Compare : cFun Tryd.prog H_txn_Compare Tryd.f12 = some (c_txn_Compare F12) := by kernel_rfl
theorem a12_txn_Compare {xs : List Arg} {rv : RV} {outs : List Blk} (h : (c_txn_Compare F12).gives (ACallI I12 Tryd.prog) xs rv outs) : ACallI I12 Tryd.prog (F12 n_txn_Compare) xs rv outs := acall_ofI mix12 Tryd.func12 ok12_txn_Compare h
theorem ok12_slices_BinarySearchFunc_api_Txn_api_Txn_api_Dot : cFun Tryd.prog H_slices_BinarySearchFunc_api_Txn_api_Txn_api_Dot Tryd.f59 = some (c_slices_BinarySearchFunc_api_Txn_api_Txn_api_Dot F12) := by kernel_rfl
theorem a12_slices_BinarySearchFunc_api_Txn_api_Txn_api_Dot {xs : List Arg} {rv : RV} {outs : List Blk} (h : (c_slices_BinarySearchFunc_api_Txn_api_Txn_api_Dot F12).gives (ACallI I12 Tryd.prog) xs rv outs) : ACallI I12 Tryd.prog (F12 n_slices_BinarySearchFunc_api_Txn_api_Txn_api_Dot) xs rv outs := acall_ofI mix12 Tryd.func59 ok12_slices_BinarySearchFunc_api_Txn_api_Txn_api_Dot h
theorem ok12_txn_Find_1 : cFun Tryd.prog H_txn_Find_1 Tryd.f63 = some (c_txn_Find_1 F12) := by kernel_rfl
theorem a12_txn_Find_1 {xs : List Arg} {rv : RV} {outs : List Blk} (h : (c_txn_Find_1 F12).gives (ACallI I12 Tryd.prog) xs rv outs) : ACallI I12 Tryd.prog (F12 n_txn_Find_1) xs rv outs := acall_ofI mix12 Tryd.func63 ok12_txn_Find_1 h
theorem ok12_txn_Find : cFun Tryd.prog H_txn_Find Tryd.f23 = some (c_txn_Find F12) := by kernel_rfl
theorem a12_txn_Find {xs : List Arg} {rv : RV} {outs : List Blk} (h : (c_txn_Find F12).gives (ACallI I12 Tryd.prog) xs rv outs) : ACallI I12 Tryd.prog (F12 n_txn_Find) xs rv outs := acall_ofI mix12 Tryd.func23 ok12_txn_Find h
theorem ok12_slices_EqualFunc_api_Op_api_Op_api_Op_api_Op : cFun Tryd.prog H_slices_EqualFunc_api_Op_api_Op_api_Op_api_Op Tryd.f50 = some (c_slices_EqualFunc_api_Op_api_Op_api_Op_api_Op F12) := by kernel_rfl
theorem a12_slices_EqualFunc_api_Op_api_Op_api_Op_api_Op {xs : List Arg} {rv : RV} {outs : List Blk} (h : (c_slices_EqualFunc_api_Op_api_Op_api_Op_api_Op F12).gives (ACallI I12 Tryd.prog) xs rv outs) : ACallI I12 Tryd.prog (F12 n_slices_EqualFunc_api_Op_api_Op_api_Op_api_Op) xs rv outs := acall_ofI mix12 Tryd.func50 ok12_slices_EqualFunc_api_Op_api_Op_api_Op_api_Op h
theorem ok12_slices_Equal_string_string : cFun Tryd.prog H_slices_Equal_string_string Tryd.f85 = some (c_slices_Equal_string_string F12) := by kernel_rfl
theorem a12_slices_Equal_string_string {xs : List Arg} {rv : RV} {outs : List Blk} (h : (c_slices_Equal_string_string F12).gives (ACallI I12 Tryd.prog) xs rv outs) : ACallI I12 Tryd.prog (F12 n_slices_Equal_string_string) xs rv outs := acall_ofI mix12 Tryd.func85 ok12_slices_Equal_string_string h
theorem ok12_slices_Equal_api_Ref_api_Ref : cFun Tryd.prog H_slices_Equal_api_Ref_api_Ref Tryd.f86 = some (c_slices_Equal_api_Ref_api_Ref F12) := by kernel_rfl
theorem a12_slices_Equal_api_Ref_api_Ref {xs : List Arg} {rv : RV} {outs : List Blk} (h : (c_slices_Equal_api_Ref_api_Ref F12).gives (ACallI I12 Tryd.prog) xs rv outs) : ACallI I12 Tryd.prog (F12 n_slices_Equal_api_Ref_api_Ref) xs rv outs := acall_ofI mix12 Tryd.func86 ok12_slices_Equal_api_Ref_api_Ref h
theorem ok12_op_Same : cFun Tryd.prog H_op_Same Tryd.f51 = some (c_op_Same F12) := by kernel_rfl
theorem a12_op_Same {xs : List Arg} {rv : RV} {outs : List Blk} (h : (c_op_Same F12).gives (ACallI I12 Tryd.prog) xs rv outs) : ACallI I12 Tryd.prog (F12 n_op_Same) xs rv outs := acall_ofI mix12 Tryd.func51 ok12_op_Same h
theorem ok12_txn_Same : cFun Tryd.prog H_txn_Same Tryd.f14 = some (c_txn_Same F12) := by kernel_rfl
theorem a12_txn_Same {xs : List Arg} {rv : RV} {outs : List Blk} (h : (c_txn_Same F12).gives (ACallI I12 Tryd.prog) xs rv outs) : ACallI I12 Tryd.prog (F12 n_txn_Same) xs rv outs := acall_ofI mix12 Tryd.func14 ok12_txn_Same h
theorem ok12_plaw12_awake : cFun Tryd.prog H_plaw12_awake Tryd.f9 = some (c_plaw12_awake F12) := by kernel_rfl
theorem a12_plaw12_awake {xs : List Arg} {rv : RV} {outs : List Blk} (h : (c_plaw12_awake F12).gives (ACallI I12 Tryd.prog) xs rv outs) : ACallI I12 Tryd.prog (F12 n_plaw12_awake) xs rv outs := acall_ofI mix12 Tryd.func9 ok12_plaw12_awake h
theorem ok12_pref10_Short : cFun Tryd.prog H_pref10_Short Tryd.f75 = some (c_pref10_Short F12) := by kernel_rfl
theorem a12_pref10_Short {xs : List Arg} {rv : RV} {outs : List Blk} (h : (c_pref10_Short F12).gives (ACallI I12 Tryd.prog) xs rv outs) : ACallI I12 Tryd.prog (F12 n_pref10_Short) xs rv outs := acall_ofI mix12 Tryd.func75 ok12_pref10_Short h
theorem ok12_pref11_Short : cFun Tryd.prog H_pref11_Short Tryd.f39 = some (c_pref11_Short F12) := by kernel_rfl
theorem a12_pref11_Short {xs : List Arg} {rv : RV} {outs : List Blk} (h : (c_pref11_Short F12).gives (ACallI I12 Tryd.prog) xs rv outs) : ACallI I12 Tryd.prog (F12 n_pref11_Short) xs rv outs := acall_ofI mix12 Tryd.func39 ok12_pref11_Short h
theorem ok12_pref12_Short : cFun Tryd.prog H_pref12_Short Tryd.f8 = some (c_pref12_Short F12) := by kernel_rfl
theorem a12_pref12_Short {xs : List Arg} {rv : RV} {outs : List Blk} (h : (c_pref12_Short F12).gives (ACallI I12 Tryd.prog) xs rv outs) : ACallI I12 Tryd.prog (F12 n_pref12_Short) xs rv outs := acall_ofI mix12 Tryd.func8 ok12_pref12_Short h
theorem ok12_pref04_Right : cFun Tryd.prog H_pref04_Right Tryd.f38 = some (c_pref04_Right F12) := by kernel_rfl
theorem a12_pref04_Right {xs : List Arg} {rv : RV} {outs : List Blk} (h : (c_pref04_Right F12).gives (ACallI I12 Tryd.prog) xs rv outs) : ACallI I12 Tryd.prog (F12 n_pref04_Right) xs rv outs := acall_ofI mix12 Tryd.func38 ok12_pref04_Right h
theorem ok12_pref11_Gone : cFun Tryd.prog H_pref11_Gone Tryd.f42 = some (c_pref11_Gone F12) := by kernel_rfl
theorem a12_pref11_Gone {xs : List Arg} {rv : RV} {outs : List Blk} (h : (c_pref11_Gone F12).gives (ACallI I12 Tryd.prog) xs rv outs) : ACallI I12 Tryd.prog (F12 n_pref11_Gone) xs rv outs := acall_ofI mix12 Tryd.func42 ok12_pref11_Gone h
theorem ok12_pref03_Char : cFun Tryd.prog H_pref03_Char Tryd.f120 = some (c_pref03_Char F12) := by kernel_rfl
theorem a12_pref03_Char {xs : List Arg} {rv : RV} {outs : List Blk} (h : (c_pref03_Char F12).gives (ACallI I12 Tryd.prog) xs rv outs) : ACallI I12 Tryd.prog (F12 n_pref03_Char) xs rv outs := acall_ofI mix12 Tryd.func120 ok12_pref03_Char h
theorem ok12_pref03_Runes : cFun Tryd.prog H_pref03_Runes Tryd.f106 = some (c_pref03_Runes F12) := by kernel_rfl
theorem a12_pref03_Runes {xs : List Arg} {rv : RV} {outs : List Blk} (h : (c_pref03_Runes F12).gives (ACallI I12 Tryd.prog) xs rv outs) : ACallI I12 Tryd.prog (F12 n_pref03_Runes) xs rv outs := acall_ofI mix12 Tryd.func106 ok12_pref03_Runes h
theorem ok12_pref03_may : cFun Tryd.prog H_pref03_may Tryd.f119 = some (c_pref03_may F12) := by kernel_rfl
theorem a12_pref03_may {xs : List Arg} {rv : RV} {outs : List Blk} (h : (c_pref03_may F12).gives (ACallI I12 Tryd.prog) xs rv outs) : ACallI I12 Tryd.prog (F12 n_pref03_may) xs rv outs := acall_ofI mix12 Tryd.func119 ok12_pref03_may h
theorem ok12_pref03_Right : cFun Tryd.prog H_pref03_Right Tryd.f105 = some (c_pref03_Right F12) := by kernel_rfl
theorem a12_pref03_Right {xs : List Arg} {rv : RV} {outs : List Blk} (h : (c_pref03_Right F12).gives (ACallI I12 Tryd.prog) xs rv outs) : ACallI I12 Tryd.prog (F12 n_pref03_Right) xs rv outs := acall_ofI mix12 Tryd.func105 ok12_pref03_Right h
theorem ok12_pref10_Check : cFun Tryd.prog H_pref10_Check Tryd.f76 = some (c_pref10_Check F12) := by kernel_rfl
theorem a12_pref10_Check {xs : List Arg} {rv : RV} {outs : List Blk} (h : (c_pref10_Check F12).gives (ACallI I12 Tryd.prog) xs rv outs) : ACallI I12 Tryd.prog (F12 n_pref10_Check) xs rv outs := acall_ofI mix12 Tryd.func76 ok12_pref10_Check h
theorem ok12_pref09_Right : cFun Tryd.prog H_pref09_Right Tryd.f77 = some (c_pref09_Right F12) := by kernel_rfl
theorem a12_pref09_Right {xs : List Arg} {rv : RV} {outs : List Blk} (h : (c_pref09_Right F12).gives (ACallI I12 Tryd.prog) xs rv outs) : ACallI I12 Tryd.prog (F12 n_pref09_Right) xs rv outs := acall_ofI mix12 Tryd.func77 ok12_pref09_Right h
theorem ok12_pref04_ints : cFun Tryd.prog H_pref04_ints Tryd.f84 = some (c_pref04_ints F12) := by kernel_rfl
theorem a12_pref04_ints {xs : List Arg} {rv : RV} {outs : List Blk} (h : (c_pref04_ints F12).gives (ACallI I12 Tryd.prog) xs rv outs) : ACallI I12 Tryd.prog (F12 n_pref04_ints) xs rv outs := acall_ofI mix12 Tryd.func84 ok12_pref04_ints h
theorem ok12_pref04_Compare : cFun Tryd.prog H_pref04_Compare Tryd.f49 = some (c_pref04_Compare F12) := by kernel_rfl
theorem a12_pref04_Compare {xs : List Arg} {rv : RV} {outs : List Blk} (h : (c_pref04_Compare F12).gives (ACallI I12 Tryd.prog) xs rv outs) : ACallI I12 Tryd.prog (F12 n_pref04_Compare) xs rv outs := acall_ofI mix12 Tryd.func49 ok12_pref04_Compare h
theorem ok12_pref04_Refs : cFun Tryd.prog H_pref04_Refs Tryd.f107 = some (c_pref04_Refs F12) := by kernel_rfl
theorem a12_pref04_Refs {xs : List Arg} {rv : RV} {outs : List Blk} (h : (c_pref04_Refs F12).gives (ACallI I12 Tryd.prog) xs rv outs) : ACallI I12 Tryd.prog (F12 n_pref04_Refs) xs rv outs := acall_ofI mix12 Tryd.func107 ok12_pref04_Refs h
theorem ok12_pref11_Refs : cFun Tryd.prog H_pref11_Refs Tryd.f78 = some (c_pref11_Refs F12) := by kernel_rfl
theorem a12_pref11_Refs {xs : List Arg} {rv : RV} {outs : List Blk} (h : (c_pref11_Refs F12).gives (ACallI I12 Tryd.prog) xs rv outs) : ACallI I12 Tryd.prog (F12 n_pref11_Refs) xs rv outs := acall_ofI mix12 Tryd.func78 ok12_pref11_Refs h
theorem ok12_pref11_Check : cFun Tryd.prog H_pref11_Check Tryd.f41 = some (c_pref11_Check F12) := by kernel_rfl
theorem a12_pref11_Check {xs : List Arg} {rv : RV} {outs : List Blk} (h : (c_pref11_Check F12).gives (ACallI I12 Tryd.prog) xs rv outs) : ACallI I12 Tryd.prog (F12 n_pref11_Check) xs rv outs := acall_ofI mix12 Tryd.func41 ok12_pref11_Check h
theorem ok12_pref12_Check : cFun Tryd.prog H_pref12_Check Tryd.f10 = some (c_pref12_Check F12) := by kernel_rfl
theorem a12_pref12_Check {xs : List Arg} {rv : RV} {outs : List Blk} (h : (c_pref12_Check F12).gives (ACallI I12 Tryd.prog) xs rv outs) : ACallI I12 Tryd.prog (F12 n_pref12_Check) xs rv outs := acall_ofI mix12 Tryd.func10 ok12_pref12_Check h
theorem ok12_pref03_Same : cFun Tryd.prog H_pref03_Same Tryd.f87 = some (c_pref03_Same F12) := by kernel_rfl
theorem a12_pref03_Same {xs : List Arg} {rv : RV} {outs : List Blk} (h : (c_pref03_Same F12).gives (ACallI I12 Tryd.prog) xs rv outs) : ACallI I12 Tryd.prog (F12 n_pref03_Same) xs rv outs := acall_ofI mix12 Tryd.func87 ok12_pref03_Same h
theorem ok12_pref11_Same : cFun Tryd.prog H_pref11_Same Tryd.f52 = some (c_pref11_Same F12) := by kernel_rfl
theorem a12_pref11_Same {xs : List Arg} {rv : RV} {outs : List Blk} (h : (c_pref11_Same F12).gives (ACallI I12 Tryd.prog) xs rv outs) : ACallI I12 Tryd.prog (F12 n_pref11_Same) xs rv outs := acall_ofI mix12 Tryd.func52 ok12_pref11_Same h
theorem ok12_pref12_Same : cFun Tryd.prog H_pref12_Same Tryd.f15 = some (c_pref12_Same F12) := by kernel_rfl
theorem a12_pref12_Same {xs : List Arg} {rv : RV} {outs : List Blk} (h : (c_pref12_Same F12).gives (ACallI I12 Tryd.prog) xs rv outs) : ACallI I12 Tryd.prog (F12 n_pref12_Same) xs rv outs := acall_ofI mix12 Tryd.func15 ok12_pref12_Same h
theorem ok12_strings_Builder_WriteByte : cFun Tryd.prog H_strings_Builder_WriteByte Tryd.f88 = some (c_strings_Builder_WriteByte F12) := by kernel_rfl
theorem a12_strings_Builder_WriteByte {xs : List Arg} {rv : RV} {outs : List Blk} (h : (c_strings_Builder_WriteByte F12).gives (ACallI I12 Tryd.prog) xs rv outs) : ACallI I12 Tryd.prog (F12 n_strings_Builder_WriteByte) xs rv outs := acall_ofI mix12 Tryd.func88 ok12_strings_Builder_WriteByte h
theorem ok12_pack_Int : cFun Tryd.prog H_pack_Int Tryd.f54 = some (c_pack_Int F12) := by kernel_rfl
theorem a12_pack_Int {xs : List Arg} {rv : RV} {outs : List Blk} (h : (c_pack_Int F12).gives (ACallI I12 Tryd.prog) xs rv outs) : ACallI I12 Tryd.prog (F12 n_pack_Int) xs rv outs := acall_ofI mix12 Tryd.func54 ok12_pack_Int h
theorem ok12_dot_Code : cFun Tryd.prog H_dot_Code Tryd.f53 = some (c_dot_Code F12) := by kernel_rfl
theorem a12_dot_Code {xs : List Arg} {rv : RV} {outs : List Blk} (h : (c_dot_Code F12).gives (ACallI I12 Tryd.prog) xs rv outs) : ACallI I12 Tryd.prog (F12 n_dot_Code) xs rv outs := acall_ofI mix12 Tryd.func53 ok12_dot_Code h
theorem ok12_pack_Text : cFun Tryd.prog H_pack_Text Tryd.f114 = some (c_pack_Text F12) := by kernel_rfl
theorem a12_pack_Text {xs : List Arg} {rv : RV} {outs : List Blk} (h : (c_pack_Text F12).gives (ACallI I12 Tryd.prog) xs rv outs) : ACallI I12 Tryd.prog (F12 n_pack_Text) xs rv outs := acall_ofI mix12 Tryd.func114 ok12_pack_Text h
theorem ok12_path_Code : cFun Tryd.prog H_path_Code Tryd.f90 = some (c_path_Code F12) := by kernel_rfl
theorem a12_path_Code {xs : List Arg} {rv : RV} {outs : List Blk} (h : (c_path_Code F12).gives (ACallI I12 Tryd.prog) xs rv outs) : ACallI I12 Tryd.prog (F12 n_path_Code) xs rv outs := acall_ofI mix12 Tryd.func90 ok12_path_Code h
theorem ok12_value_Fold : cFun Tryd.prog H_value_Fold Tryd.f91 = some (c_value_Fold F12) := by kernel_rfl
theorem a12_value_Fold {xs : List Arg} {rv : RV} {outs : List Blk} (h : (c_value_Fold F12).gives (ACallI I12 Tryd.prog) xs rv outs) : ACallI I12 Tryd.prog (F12 n_value_Fold) xs rv outs := acall_ofI mix12 Tryd.func91 ok12_value_Fold h
theorem ok12_value_Code : cFun Tryd.prog H_value_Code Tryd.f92 = some (c_value_Code F12) := by kernel_rfl
theorem a12_value_Code {xs : List Arg} {rv : RV} {outs : List Blk} (h : (c_value_Code F12).gives (ACallI I12 Tryd.prog) xs rv outs) : ACallI I12 Tryd.prog (F12 n_value_Code) xs rv outs := acall_ofI mix12 Tryd.func92 ok12_value_Code h
theorem ok12_op_Code : cFun Tryd.prog H_op_Code Tryd.f55 = some (c_op_Code F12) := by kernel_rfl
theorem a12_op_Code {xs : List Arg} {rv : RV} {outs : List Blk} (h : (c_op_Code F12).gives (ACallI I12 Tryd.prog) xs rv outs) : ACallI I12 Tryd.prog (F12 n_op_Code) xs rv outs := acall_ofI mix12 Tryd.func55 ok12_op_Code h
theorem ok12_txn_Code : cFun Tryd.prog H_txn_Code Tryd.f16 = some (c_txn_Code F12) := by kernel_rfl
theorem a12_txn_Code {xs : List Arg} {rv : RV} {outs : List Blk} (h : (c_txn_Code F12).gives (ACallI I12 Tryd.prog) xs rv outs) : ACallI I12 Tryd.prog (F12 n_txn_Code) xs rv outs := acall_ofI mix12 Tryd.func16 ok12_txn_Code h
theorem ok12_pref02_Int : cFun Tryd.prog H_pref02_Int Tryd.f57 = some (c_pref02_Int F12) := by kernel_rfl
theorem a12_pref02_Int {xs : List Arg} {rv : RV} {outs : List Blk} (h : (c_pref02_Int F12).gives (ACallI I12 Tryd.prog) xs rv outs) : ACallI I12 Tryd.prog (F12 n_pref02_Int) xs rv outs := acall_ofI mix12 Tryd.func57 ok12_pref02_Int h
theorem ok12_pref04_Code : cFun Tryd.prog H_pref04_Code Tryd.f56 = some (c_pref04_Code F12) := by kernel_rfl
theorem a12_pref04_Code {xs : List Arg} {rv : RV} {outs : List Blk} (h : (c_pref04_Code F12).gives (ACallI I12 Tryd.prog) xs rv outs) : ACallI I12 Tryd.prog (F12 n_pref04_Code) xs rv outs := acall_ofI mix12 Tryd.func56 ok12_pref04_Code h
theorem ok12_pref02_Text : cFun Tryd.prog H_pref02_Text Tryd.f115 = some (c_pref02_Text F12) := by kernel_rfl
theorem a12_pref02_Text {xs : List Arg} {rv : RV} {outs : List Blk} (h : (c_pref02_Text F12).gives (ACallI I12 Tryd.prog) xs rv outs) : ACallI I12 Tryd.prog (F12 n_pref02_Text) xs rv outs := acall_ofI mix12 Tryd.func115 ok12_pref02_Text h
theorem ok12_pref10_Code : cFun Tryd.prog H_pref10_Code Tryd.f93 = some (c_pref10_Code F12) := by kernel_rfl
theorem a12_pref10_Code {xs : List Arg} {rv : RV} {outs : List Blk} (h : (c_pref10_Code F12).gives (ACallI I12 Tryd.prog) xs rv outs) : ACallI I12 Tryd.prog (F12 n_pref10_Code) xs rv outs := acall_ofI mix12 Tryd.func93 ok12_pref10_Code h
theorem ok12_pref09_Fold : cFun Tryd.prog H_pref09_Fold Tryd.f94 = some (c_pref09_Fold F12) := by kernel_rfl
theorem a12_pref09_Fold {xs : List Arg} {rv : RV} {outs : List Blk} (h : (c_pref09_Fold F12).gives (ACallI I12 Tryd.prog) xs rv outs) : ACallI I12 Tryd.prog (F12 n_pref09_Fold) xs rv outs := acall_ofI mix12 Tryd.func94 ok12_pref09_Fold h
theorem ok12_pref09_Code : cFun Tryd.prog H_pref09_Code Tryd.f95 = some (c_pref09_Code F12) := by kernel_rfl
theorem a12_pref09_Code {xs : List Arg} {rv : RV} {outs : List Blk} (h : (c_pref09_Code F12).gives (ACallI I12 Tryd.prog) xs rv outs) : ACallI I12 Tryd.prog (F12 n_pref09_Code) xs rv outs := acall_ofI mix12 Tryd.func95 ok12_pref09_Code h
theorem ok12_pref11_Code : cFun Tryd.prog H_pref11_Code Tryd.f58 = some (c_pref11_Code F12) := by kernel_rfl
theorem a12_pref11_Code {xs : List Arg} {rv : RV} {outs : List Blk} (h : (c_pref11_Code F12).gives (ACallI I12 Tryd.prog) xs rv outs) : ACallI I12 Tryd.prog (F12 n_pref11_Code) xs rv outs := acall_ofI mix12 Tryd.func58 ok12_pref11_Code h
theorem ok12_pref12_Code : cFun Tryd.prog H_pref12_Code Tryd.f17 = some (c_pref12_Code F12) := by kernel_rfl
theorem a12_pref12_Code {xs : List Arg} {rv : RV} {outs : List Blk} (h : (c_pref12_Code F12).gives (ACallI I12 Tryd.prog) xs rv outs) : ACallI I12 Tryd.prog (F12 n_pref12_Code) xs rv outs := acall_ofI mix12 Tryd.func17 ok12_pref12_Code h
theorem ok12_txn_Rises : cFun Tryd.prog H_txn_Rises Tryd.f22 = some (c_txn_Rises F12) := by kernel_rfl
theorem a12_txn_Rises {xs : List Arg} {rv : RV} {outs : List Blk} (h : (c_txn_Rises F12).gives (ACallI I12 Tryd.prog) xs rv outs) : ACallI I12 Tryd.prog (F12 n_txn_Rises) xs rv outs := acall_ofI mix12 Tryd.func22 ok12_txn_Rises h
theorem ok12_pref12_Rises : cFun Tryd.prog H_pref12_Rises Tryd.f21 = some (c_pref12_Rises F12) := by kernel_rfl
theorem a12_pref12_Rises {xs : List Arg} {rv : RV} {outs : List Blk} (h : (c_pref12_Rises F12).gives (ACallI I12 Tryd.prog) xs rv outs) : ACallI I12 Tryd.prog (F12 n_pref12_Rises) xs rv outs := acall_ofI mix12 Tryd.func21 ok12_pref12_Rises h
theorem ok12_pref12_All : cFun Tryd.prog H_pref12_All Tryd.f20 = some (c_pref12_All F12) := by kernel_rfl
theorem a12_pref12_All {xs : List Arg} {rv : RV} {outs : List Blk} (h : (c_pref12_All F12).gives (ACallI I12 Tryd.prog) xs rv outs) : ACallI I12 Tryd.prog (F12 n_pref12_All) xs rv outs := acall_ofI mix12 Tryd.func20 ok12_pref12_All h
theorem ok12_pack_Open : cFun Tryd.prog H_pack_Open Tryd.f26 = some (c_pack_Open F12) := by kernel_rfl
theorem a12_pack_Open {xs : List Arg} {rv : RV} {outs : List Blk} (h : (c_pack_Open F12).gives (ACallI I12 Tryd.prog) xs rv outs) : ACallI I12 Tryd.prog (F12 n_pack_Open) xs rv outs := acall_ofI mix12 Tryd.func26 ok12_pack_Open h
theorem ok12_pack_Reader_fine : cFun Tryd.prog H_pack_Reader_fine Tryd.f74 = some (c_pack_Reader_fine F12) := by kernel_rfl
theorem a12_pack_Reader_fine {xs : List Arg} {rv : RV} {outs : List Blk} (h : (c_pack_Reader_fine F12).gives (ACallI I12 Tryd.prog) xs rv outs) : ACallI I12 Tryd.prog (F12 n_pack_Reader_fine) xs rv outs := acall_ofI mix12 Tryd.func74 ok12_pack_Reader_fine h
theorem ok12_pack_Reader_Fail : cFun Tryd.prog H_pack_Reader_Fail Tryd.f66 = some (c_pack_Reader_Fail F12) := by kernel_rfl
theorem a12_pack_Reader_Fail {xs : List Arg} {rv : RV} {outs : List Blk} (h : (c_pack_Reader_Fail F12).gives (ACallI I12 Tryd.prog) xs rv outs) : ACallI I12 Tryd.prog (F12 n_pack_Reader_Fail) xs rv outs := acall_ofI mix12 Tryd.func66 ok12_pack_Reader_Fail h
theorem ok12_pack_Reader_Int : cFun Tryd.prog H_pack_Reader_Int Tryd.f65 = some (c_pack_Reader_Int F12) := by kernel_rfl
theorem a12_pack_Reader_Int {xs : List Arg} {rv : RV} {outs : List Blk} (h : (c_pack_Reader_Int F12).gives (ACallI I12 Tryd.prog) xs rv outs) : ACallI I12 Tryd.prog (F12 n_pack_Reader_Int) xs rv outs := acall_ofI mix12 Tryd.func65 ok12_pack_Reader_Int h
theorem ok12_pack_Reader_Fault : cFun Tryd.prog H_pack_Reader_Fault Tryd.f29 = some (c_pack_Reader_Fault F12) := by kernel_rfl
theorem a12_pack_Reader_Fault {xs : List Arg} {rv : RV} {outs : List Blk} (h : (c_pack_Reader_Fault F12).gives (ACallI I12 Tryd.prog) xs rv outs) : ACallI I12 Tryd.prog (F12 n_pack_Reader_Fault) xs rv outs := acall_ofI mix12 Tryd.func29 ok12_pack_Reader_Fault h
theorem ok12_dot_Read : cFun Tryd.prog H_dot_Read Tryd.f64 = some (c_dot_Read F12) := by kernel_rfl
theorem a12_dot_Read {xs : List Arg} {rv : RV} {outs : List Blk} (h : (c_dot_Read F12).gives (ACallI I12 Tryd.prog) xs rv outs) : ACallI I12 Tryd.prog (F12 n_dot_Read) xs rv outs := acall_ofI mix12 Tryd.func64 ok12_dot_Read h
theorem ok12_pack_Reader_Many : cFun Tryd.prog H_pack_Reader_Many Tryd.f67 = some (c_pack_Reader_Many F12) := by kernel_rfl
theorem a12_pack_Reader_Many {xs : List Arg} {rv : RV} {outs : List Blk} (h : (c_pack_Reader_Many F12).gives (ACallI I12 Tryd.prog) xs rv outs) : ACallI I12 Tryd.prog (F12 n_pack_Reader_Many) xs rv outs := acall_ofI mix12 Tryd.func67 ok12_pack_Reader_Many h
theorem ok12_pack_Reader_Text : cFun Tryd.prog H_pack_Reader_Text Tryd.f117 = some (c_pack_Reader_Text F12) := by kernel_rfl
theorem a12_pack_Reader_Text {xs : List Arg} {rv : RV} {outs : List Blk} (h : (c_pack_Reader_Text F12).gives (ACallI I12 Tryd.prog) xs rv outs) : ACallI I12 Tryd.prog (F12 n_pack_Reader_Text) xs rv outs := acall_ofI mix12 Tryd.func117 ok12_pack_Reader_Text h
theorem ok12_path_Read : cFun Tryd.prog H_path_Read Tryd.f98 = some (c_path_Read F12) := by kernel_rfl
theorem a12_path_Read {xs : List Arg} {rv : RV} {outs : List Blk} (h : (c_path_Read F12).gives (ACallI I12 Tryd.prog) xs rv outs) : ACallI I12 Tryd.prog (F12 n_path_Read) xs rv outs := acall_ofI mix12 Tryd.func98 ok12_path_Read h
theorem ok12_value_Unfold : cFun Tryd.prog H_value_Unfold Tryd.f99 = some (c_value_Unfold F12) := by kernel_rfl
theorem a12_value_Unfold {xs : List Arg} {rv : RV} {outs : List Blk} (h : (c_value_Unfold F12).gives (ACallI I12 Tryd.prog) xs rv outs) : ACallI I12 Tryd.prog (F12 n_value_Unfold) xs rv outs := acall_ofI mix12 Tryd.func99 ok12_value_Unfold h
theorem ok12_value_Read : cFun Tryd.prog H_value_Read Tryd.f100 = some (c_value_Read F12) := by kernel_rfl
theorem a12_value_Read {xs : List Arg} {rv : RV} {outs : List Blk} (h : (c_value_Read F12).gives (ACallI I12 Tryd.prog) xs rv outs) : ACallI I12 Tryd.prog (F12 n_value_Read) xs rv outs := acall_ofI mix12 Tryd.func100 ok12_value_Read h
theorem ok12_op_seen : cFun Tryd.prog H_op_seen Tryd.f101 = some (c_op_seen F12) := by kernel_rfl
theorem a12_op_seen {xs : List Arg} {rv : RV} {outs : List Blk} (h : (c_op_seen F12).gives (ACallI I12 Tryd.prog) xs rv outs) : ACallI I12 Tryd.prog (F12 n_op_seen) xs rv outs := acall_ofI mix12 Tryd.func101 ok12_op_seen h
theorem ok12_op_Read : cFun Tryd.prog H_op_Read Tryd.f68 = some (c_op_Read F12) := by kernel_rfl
theorem a12_op_Read {xs : List Arg} {rv : RV} {outs : List Blk} (h : (c_op_Read F12).gives (ACallI I12 Tryd.prog) xs rv outs) : ACallI I12 Tryd.prog (F12 n_op_Read) xs rv outs := acall_ofI mix12 Tryd.func68 ok12_op_Read h
theorem ok12_txn_Read : cFun Tryd.prog H_txn_Read Tryd.f27 = some (c_txn_Read F12) := by kernel_rfl
theorem a12_txn_Read {xs : List Arg} {rv : RV} {outs : List Blk} (h : (c_txn_Read F12).gives (ACallI I12 Tryd.prog) xs rv outs) : ACallI I12 Tryd.prog (F12 n_txn_Read) xs rv outs := acall_ofI mix12 Tryd.func27 ok12_txn_Read h
theorem ok12_pack_Reader_Left : cFun Tryd.prog H_pack_Reader_Left Tryd.f30 = some (c_pack_Reader_Left F12) := by kernel_rfl
theorem a12_pack_Reader_Left {xs : List Arg} {rv : RV} {outs : List Blk} (h : (c_pack_Reader_Left F12).gives (ACallI I12 Tryd.prog) xs rv outs) : ACallI I12 Tryd.prog (F12 n_pack_Reader_Left) xs rv outs := acall_ofI mix12 Tryd.func30 ok12_pack_Reader_Left h
theorem ok12_txn_ReadList : cFun Tryd.prog H_txn_ReadList Tryd.f32 = some (c_txn_ReadList F12) := by kernel_rfl
theorem a12_txn_ReadList {xs : List Arg} {rv : RV} {outs : List Blk} (h : (c_txn_ReadList F12).gives (ACallI I12 Tryd.prog) xs rv outs) : ACallI I12 Tryd.prog (F12 n_txn_ReadList) xs rv outs := acall_ofI mix12 Tryd.func32 ok12_txn_ReadList h
theorem ok12_pref12_Good : cFun Tryd.prog H_pref12_Good Tryd.f34 = some (c_pref12_Good F12) := by kernel_rfl
theorem a12_pref12_Good {xs : List Arg} {rv : RV} {outs : List Blk} (h : (c_pref12_Good F12).gives (ACallI I12 Tryd.prog) xs rv outs) : ACallI I12 Tryd.prog (F12 n_pref12_Good) xs rv outs := acall_ofI mix12 Tryd.func34 ok12_pref12_Good h
theorem ok12_txn_List : cFun Tryd.prog H_txn_List Tryd.f35 = some (c_txn_List F12) := by kernel_rfl
theorem a12_txn_List {xs : List Arg} {rv : RV} {outs : List Blk} (h : (c_txn_List F12).gives (ACallI I12 Tryd.prog) xs rv outs) : ACallI I12 Tryd.prog (F12 n_txn_List) xs rv outs := acall_ofI mix12 Tryd.func35 ok12_txn_List h
theorem ok12_pref12_List : cFun Tryd.prog H_pref12_List Tryd.f36 = some (c_pref12_List F12) := by kernel_rfl
theorem a12_pref12_List {xs : List Arg} {rv : RV} {outs : List Blk} (h : (c_pref12_List F12).gives (ACallI I12 Tryd.prog) xs rv outs) : ACallI I12 Tryd.prog (F12 n_pref12_List) xs rv outs := acall_ofI mix12 Tryd.func36 ok12_pref12_List h
theorem ok12_pack_Reader_End : cFun Tryd.prog H_pack_Reader_End Tryd.f37 = some (c_pack_Reader_End F12) := by kernel_rfl
theorem a12_pack_Reader_End {xs : List Arg} {rv : RV} {outs : List Blk} (h : (c_pack_Reader_End F12).gives (ACallI I12 Tryd.prog) xs rv outs) : ACallI I12 Tryd.prog (F12 n_pack_Reader_End) xs rv outs := acall_ofI mix12 Tryd.func37 ok12_pack_Reader_End h
theorem ok12_plaw12_TxnBack : cFun Tryd.prog H_plaw12_TxnBack Tryd.f7 = some (c_plaw12_TxnBack F12) := by kernel_rfl
theorem a12_plaw12_TxnBack {xs : List Arg} {rv : RV} {outs : List Blk} (h : (c_plaw12_TxnBack F12).gives (ACallI I12 Tryd.prog) xs rv outs) : ACallI I12 Tryd.prog (F12 n_plaw12_TxnBack) xs rv outs := acall_ofI mix12 Tryd.func7 ok12_plaw12_TxnBack h
end Go.AR
