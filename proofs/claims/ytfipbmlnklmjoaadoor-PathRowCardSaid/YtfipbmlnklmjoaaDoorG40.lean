import Derived.Test.YtfipbmlnklmjoaaDoorG27
import Derived.Test.YtfipbmlnklmjoaaDoorG03
import Derived.Test.YtfipbmlnklmjoaaDoorG26
import Derived.Test.YtfipbmlnklmjoaaDoorG28
import Derived.Test.YtfipbmlnklmjoaaDoorG05
import Derived.Test.YtfipbmlnklmjoaaDoorG06
import Derived.Test.YtfipbmlnklmjoaaDoorG04
import Derived.Test.YtfipbmlnklmjoaaDoorG32
import Derived.Test.YtfipbmlnklmjoaaDoorChecked
import Derived.KernelRfl
set_option linter.all false
/-! The seat: which function is which. Printed by program. -/
namespace Go.AR
open Go Go.Proofs
def F10 : Nat → FuncId := fun i => (get [(22, 43), (23, 0), (24, 1), (25, 2), (42, 75), (43, 76), (44, 77), (45, 78), (46, 79), (47, 80), (48, 81), (49, 82), (50, 83), (51, 84), (52, 85), (53, 86), (54, 87), (55, 88), (56, 89), (57, 92), (94, 45), (97, 44), (98, 46), (100, 24), (101, 65), (102, 48), (103, 28), (104, 27), (105, 30), (107, 49), (108, 47), (109, 5), (110, 72), (111, 61), (112, 62), (113, 53), (114, 70), (115, 91), (124, 11), (129, 66), (130, 90), (131, 29), (132, 50), (133, 51), (134, 52), (177, 31), (178, 32), (179, 40), (180, 42), (183, 56), (184, 58), (185, 37), (186, 38), (190, 68), (191, 57), (192, 69), (193, 59), (194, 72), (195, 3), (196, 8), (197, 9), (198, 10), (199, 4), (200, 12), (201, 13), (202, 14), (203, 15), (204, 5), (205, 16), (206, 17), (207, 18), (208, 19), (209, 20), (210, 21), (211, 22), (212, 23), (213, 6), (214, 25), (215, 26), (216, 7), (217, 33), (218, 34), (219, 35), (220, 36), (221, 39), (222, 41), (223, 54), (224, 55), (225, 60), (226, 67), (227, 63), (228, 64), (229, 71), (230, 73), (231, 74), (232, 93), (233, 94), (234, 95), (235, 96), (236, 97)] i).getD 0
def I10 : Inv := utfInv 0 1
abbrev C10 : CallRel := ACallI I10 Tryd.prog
theorem mix10 : Tryd.prog.follows .mixedOrders = true := by kernel_rfl
end Go.AR

namespace Go.AR
open Go Go.Proofs
theorem ok10_name_Split : cFun Tryd.prog H_name_Split Tryd.f31 = some (c_name_Split F10) := by kernel_rfl
theorem a10_name_Split {xs : List Arg} {rv : RV} {outs : List Blk} (h : (c_name_Split F10).gives (ACallI I10 Tryd.prog) xs rv outs) : ACallI I10 Tryd.prog (F10 n_name_Split) xs rv outs := acall_ofI mix10 Tryd.func31 ok10_name_Split h
theorem ok10_slices_IndexFunc_string_string : cFun Tryd.prog H_slices_IndexFunc_string_string Tryd.f55 = some (c_slices_IndexFunc_string_string F10) := by kernel_rfl
theorem a10_slices_IndexFunc_string_string {xs : List Arg} {rv : RV} {outs : List Blk} (h : (c_slices_IndexFunc_string_string F10).gives (ACallI I10 Tryd.prog) xs rv outs) : ACallI I10 Tryd.prog (F10 n_slices_IndexFunc_string_string) xs rv outs := acall_ofI mix10 Tryd.func55 ok10_slices_IndexFunc_string_string h
theorem ok10_slices_ContainsFunc_string_string : cFun Tryd.prog H_slices_ContainsFunc_string_string Tryd.f35 = some (c_slices_ContainsFunc_string_string F10) := by kernel_rfl
theorem a10_slices_ContainsFunc_string_string {xs : List Arg} {rv : RV} {outs : List Blk} (h : (c_slices_ContainsFunc_string_string F10).gives (ACallI I10 Tryd.prog) xs rv outs) : ACallI I10 Tryd.prog (F10 n_slices_ContainsFunc_string_string) xs rv outs := acall_ofI mix10 Tryd.func35 ok10_slices_ContainsFunc_string_string h
theorem ok10_unicode_utf8_DecodeRuneInString : cFun Tryd.prog H_unicode_utf8_DecodeRuneInString Tryd.f68 = some (c_unicode_utf8_DecodeRuneInString F10) := by kernel_rfl
theorem a10_unicode_utf8_DecodeRuneInString {xs : List Arg} {rv : RV} {outs : List Blk} (h : (c_unicode_utf8_DecodeRuneInString F10).gives (ACallI I10 Tryd.prog) xs rv outs) : ACallI I10 Tryd.prog (F10 n_unicode_utf8_DecodeRuneInString) xs rv outs := acall_ofI mix10 Tryd.func68 ok10_unicode_utf8_DecodeRuneInString h
theorem ok10_name_Runes : cFun Tryd.prog H_name_Runes Tryd.f56 = some (c_name_Runes F10) := by kernel_rfl
theorem a10_name_Runes {xs : List Arg} {rv : RV} {outs : List Blk} (h : (c_name_Runes F10).gives (ACallI I10 Tryd.prog) xs rv outs) : ACallI I10 Tryd.prog (F10 n_name_Runes) xs rv outs := acall_ofI mix10 Tryd.func56 ok10_name_Runes h
theorem ok10_name_may : cFun Tryd.prog H_name_may Tryd.f57 = some (c_name_may F10) := by kernel_rfl
theorem a10_name_may {xs : List Arg} {rv : RV} {outs : List Blk} (h : (c_name_may F10).gives (ACallI I10 Tryd.prog) xs rv outs) : ACallI I10 Tryd.prog (F10 n_name_may) xs rv outs := acall_ofI mix10 Tryd.func57 ok10_name_may h
theorem ok10_name_Right : cFun Tryd.prog H_name_Right Tryd.f37 = some (c_name_Right F10) := by kernel_rfl
theorem a10_name_Right {xs : List Arg} {rv : RV} {outs : List Blk} (h : (c_name_Right F10).gives (ACallI I10 Tryd.prog) xs rv outs) : ACallI I10 Tryd.prog (F10 n_name_Right) xs rv outs := acall_ofI mix10 Tryd.func37 ok10_name_Right h
theorem ok10_path_Check_1 : cFun Tryd.prog H_path_Check_1 Tryd.f36 = some (c_path_Check_1 F10) := by kernel_rfl
theorem a10_path_Check_1 {xs : List Arg} {rv : RV} {outs : List Blk} (h : (c_path_Check_1 F10).gives (ACallI I10 Tryd.prog) xs rv outs) : ACallI I10 Tryd.prog (F10 n_path_Check_1) xs rv outs := acall_ofI mix10 Tryd.func36 ok10_path_Check_1 h
theorem ok10_path_Check : cFun Tryd.prog H_path_Check Tryd.f16 = some (c_path_Check F10) := by kernel_rfl
theorem a10_path_Check {xs : List Arg} {rv : RV} {outs : List Blk} (h : (c_path_Check F10).gives (ACallI I10 Tryd.prog) xs rv outs) : ACallI I10 Tryd.prog (F10 n_path_Check) xs rv outs := acall_ofI mix10 Tryd.func16 ok10_path_Check h
theorem ok10_path_Parse : cFun Tryd.prog H_path_Parse Tryd.f9 = some (c_path_Parse F10) := by kernel_rfl
theorem a10_path_Parse {xs : List Arg} {rv : RV} {outs : List Blk} (h : (c_path_Parse F10).gives (ACallI I10 Tryd.prog) xs rv outs) : ACallI I10 Tryd.prog (F10 n_path_Parse) xs rv outs := acall_ofI mix10 Tryd.func9 ok10_path_Parse h
theorem ok10_pref03_Same : cFun Tryd.prog H_pref03_Same Tryd.f11 = some (c_pref03_Same F10) := by kernel_rfl
theorem a10_pref03_Same {xs : List Arg} {rv : RV} {outs : List Blk} (h : (c_pref03_Same F10).gives (ACallI I10 Tryd.prog) xs rv outs) : ACallI I10 Tryd.prog (F10 n_pref03_Same) xs rv outs := acall_ofI mix10 Tryd.func11 ok10_pref03_Same h
theorem ok10_strings_Builder_WriteByte : cFun Tryd.prog H_strings_Builder_WriteByte Tryd.f61 = some (c_strings_Builder_WriteByte F10) := by kernel_rfl
theorem a10_strings_Builder_WriteByte {xs : List Arg} {rv : RV} {outs : List Blk} (h : (c_strings_Builder_WriteByte F10).gives (ACallI I10 Tryd.prog) xs rv outs) : ACallI I10 Tryd.prog (F10 n_strings_Builder_WriteByte) xs rv outs := acall_ofI mix10 Tryd.func61 ok10_strings_Builder_WriteByte h
theorem ok10_name_Quote : cFun Tryd.prog H_name_Quote Tryd.f40 = some (c_name_Quote F10) := by kernel_rfl
theorem a10_name_Quote {xs : List Arg} {rv : RV} {outs : List Blk} (h : (c_name_Quote F10).gives (ACallI I10 Tryd.prog) xs rv outs) : ACallI I10 Tryd.prog (F10 n_name_Quote) xs rv outs := acall_ofI mix10 Tryd.func40 ok10_name_Quote h
theorem ok10_path_Text : cFun Tryd.prog H_path_Text Tryd.f20 = some (c_path_Text F10) := by kernel_rfl
theorem a10_path_Text {xs : List Arg} {rv : RV} {outs : List Blk} (h : (c_path_Text F10).gives (ACallI I10 Tryd.prog) xs rv outs) : ACallI I10 Tryd.prog (F10 n_path_Text) xs rv outs := acall_ofI mix10 Tryd.func20 ok10_path_Text h
theorem ok10_slices_Equal_string_string : cFun Tryd.prog H_slices_Equal_string_string Tryd.f34 = some (c_slices_Equal_string_string F10) := by kernel_rfl
theorem a10_slices_Equal_string_string {xs : List Arg} {rv : RV} {outs : List Blk} (h : (c_slices_Equal_string_string F10).gives (ACallI I10 Tryd.prog) xs rv outs) : ACallI I10 Tryd.prog (F10 n_slices_Equal_string_string) xs rv outs := acall_ofI mix10 Tryd.func34 ok10_slices_Equal_string_string h
theorem ok10_path_Under : cFun Tryd.prog H_path_Under Tryd.f14 = some (c_path_Under F10) := by kernel_rfl
theorem a10_path_Under {xs : List Arg} {rv : RV} {outs : List Blk} (h : (c_path_Under F10).gives (ACallI I10 Tryd.prog) xs rv outs) : ACallI I10 Tryd.prog (F10 n_path_Under) xs rv outs := acall_ofI mix10 Tryd.func14 ok10_path_Under h
theorem ok10_plaw10_awake : cFun Tryd.prog H_plaw10_awake Tryd.f8 = some (c_plaw10_awake F10) := by kernel_rfl
theorem a10_plaw10_awake {xs : List Arg} {rv : RV} {outs : List Blk} (h : (c_plaw10_awake F10).gives (ACallI I10 Tryd.prog) xs rv outs) : ACallI I10 Tryd.prog (F10 n_plaw10_awake) xs rv outs := acall_ofI mix10 Tryd.func8 ok10_plaw10_awake h
theorem ok10_pref03_Split : cFun Tryd.prog H_pref03_Split Tryd.f32 = some (c_pref03_Split F10) := by kernel_rfl
theorem a10_pref03_Split {xs : List Arg} {rv : RV} {outs : List Blk} (h : (c_pref03_Split F10).gives (ACallI I10 Tryd.prog) xs rv outs) : ACallI I10 Tryd.prog (F10 n_pref03_Split) xs rv outs := acall_ofI mix10 Tryd.func32 ok10_pref03_Split h
theorem ok10_pref03_Char : cFun Tryd.prog H_pref03_Char Tryd.f69 = some (c_pref03_Char F10) := by kernel_rfl
theorem a10_pref03_Char {xs : List Arg} {rv : RV} {outs : List Blk} (h : (c_pref03_Char F10).gives (ACallI I10 Tryd.prog) xs rv outs) : ACallI I10 Tryd.prog (F10 n_pref03_Char) xs rv outs := acall_ofI mix10 Tryd.func69 ok10_pref03_Char h
theorem ok10_pref03_Runes : cFun Tryd.prog H_pref03_Runes Tryd.f58 = some (c_pref03_Runes F10) := by kernel_rfl
theorem a10_pref03_Runes {xs : List Arg} {rv : RV} {outs : List Blk} (h : (c_pref03_Runes F10).gives (ACallI I10 Tryd.prog) xs rv outs) : ACallI I10 Tryd.prog (F10 n_pref03_Runes) xs rv outs := acall_ofI mix10 Tryd.func58 ok10_pref03_Runes h
theorem ok10_pref03_may : cFun Tryd.prog H_pref03_may Tryd.f59 = some (c_pref03_may F10) := by kernel_rfl
theorem a10_pref03_may {xs : List Arg} {rv : RV} {outs : List Blk} (h : (c_pref03_may F10).gives (ACallI I10 Tryd.prog) xs rv outs) : ACallI I10 Tryd.prog (F10 n_pref03_may) xs rv outs := acall_ofI mix10 Tryd.func59 ok10_pref03_may h
theorem ok10_pref03_Right : cFun Tryd.prog H_pref03_Right Tryd.f38 = some (c_pref03_Right F10) := by kernel_rfl
theorem a10_pref03_Right {xs : List Arg} {rv : RV} {outs : List Blk} (h : (c_pref03_Right F10).gives (ACallI I10 Tryd.prog) xs rv outs) : ACallI I10 Tryd.prog (F10 n_pref03_Right) xs rv outs := acall_ofI mix10 Tryd.func38 ok10_pref03_Right h
theorem ok10_pref10_Check : cFun Tryd.prog H_pref10_Check Tryd.f17 = some (c_pref10_Check F10) := by kernel_rfl
theorem a10_pref10_Check {xs : List Arg} {rv : RV} {outs : List Blk} (h : (c_pref10_Check F10).gives (ACallI I10 Tryd.prog) xs rv outs) : ACallI I10 Tryd.prog (F10 n_pref10_Check) xs rv outs := acall_ofI mix10 Tryd.func17 ok10_pref10_Check h
theorem ok10_pref10_Parse : cFun Tryd.prog H_pref10_Parse Tryd.f10 = some (c_pref10_Parse F10) := by kernel_rfl
theorem a10_pref10_Parse {xs : List Arg} {rv : RV} {outs : List Blk} (h : (c_pref10_Parse F10).gives (ACallI I10 Tryd.prog) xs rv outs) : ACallI I10 Tryd.prog (F10 n_pref10_Parse) xs rv outs := acall_ofI mix10 Tryd.func10 ok10_pref10_Parse h
theorem ok10_plaw10_PathParses : cFun Tryd.prog H_plaw10_PathParses Tryd.f3 = some (c_plaw10_PathParses F10) := by kernel_rfl
theorem a10_plaw10_PathParses {xs : List Arg} {rv : RV} {outs : List Blk} (h : (c_plaw10_PathParses F10).gives (ACallI I10 Tryd.prog) xs rv outs) : ACallI I10 Tryd.prog (F10 n_plaw10_PathParses) xs rv outs := acall_ofI mix10 Tryd.func3 ok10_plaw10_PathParses h
theorem ok10_pref10_Short : cFun Tryd.prog H_pref10_Short Tryd.f12 = some (c_pref10_Short F10) := by kernel_rfl
theorem a10_pref10_Short {xs : List Arg} {rv : RV} {outs : List Blk} (h : (c_pref10_Short F10).gives (ACallI I10 Tryd.prog) xs rv outs) : ACallI I10 Tryd.prog (F10 n_pref10_Short) xs rv outs := acall_ofI mix10 Tryd.func12 ok10_pref10_Short h
theorem ok10_cmp_isNaN_string : cFun Tryd.prog H_cmp_isNaN_string Tryd.f67 = some (c_cmp_isNaN_string F10) := by kernel_rfl
theorem a10_cmp_isNaN_string {xs : List Arg} {rv : RV} {outs : List Blk} (h : (c_cmp_isNaN_string F10).gives (ACallI I10 Tryd.prog) xs rv outs) : ACallI I10 Tryd.prog (F10 n_cmp_isNaN_string) xs rv outs := acall_ofI mix10 Tryd.func67 ok10_cmp_isNaN_string h
theorem ok10_cmp_Compare_string : cFun Tryd.prog H_cmp_Compare_string Tryd.f54 = some (c_cmp_Compare_string F10) := by kernel_rfl
theorem a10_cmp_Compare_string {xs : List Arg} {rv : RV} {outs : List Blk} (h : (c_cmp_Compare_string F10).gives (ACallI I10 Tryd.prog) xs rv outs) : ACallI I10 Tryd.prog (F10 n_cmp_Compare_string) xs rv outs := acall_ofI mix10 Tryd.func54 ok10_cmp_Compare_string h
theorem ok10_slices_Compare_string_string : cFun Tryd.prog H_slices_Compare_string_string Tryd.f33 = some (c_slices_Compare_string_string F10) := by kernel_rfl
theorem a10_slices_Compare_string_string {xs : List Arg} {rv : RV} {outs : List Blk} (h : (c_slices_Compare_string_string F10).gives (ACallI I10 Tryd.prog) xs rv outs) : ACallI I10 Tryd.prog (F10 n_slices_Compare_string_string) xs rv outs := acall_ofI mix10 Tryd.func33 ok10_slices_Compare_string_string h
theorem ok10_path_Compare : cFun Tryd.prog H_path_Compare Tryd.f13 = some (c_path_Compare F10) := by kernel_rfl
theorem a10_path_Compare {xs : List Arg} {rv : RV} {outs : List Blk} (h : (c_path_Compare F10).gives (ACallI I10 Tryd.prog) xs rv outs) : ACallI I10 Tryd.prog (F10 n_path_Compare) xs rv outs := acall_ofI mix10 Tryd.func13 ok10_path_Compare h
theorem ok10_path_Same : cFun Tryd.prog H_path_Same Tryd.f15 = some (c_path_Same F10) := by kernel_rfl
theorem a10_path_Same {xs : List Arg} {rv : RV} {outs : List Blk} (h : (c_path_Same F10).gives (ACallI I10 Tryd.prog) xs rv outs) : ACallI I10 Tryd.prog (F10 n_path_Same) xs rv outs := acall_ofI mix10 Tryd.func15 ok10_path_Same h
theorem ok10_plaw10_PathRow : cFun Tryd.prog H_plaw10_PathRow Tryd.f4 = some (c_plaw10_PathRow F10) := by kernel_rfl
theorem a10_plaw10_PathRow {xs : List Arg} {rv : RV} {outs : List Blk} (h : (c_plaw10_PathRow F10).gives (ACallI I10 Tryd.prog) xs rv outs) : ACallI I10 Tryd.prog (F10 n_plaw10_PathRow) xs rv outs := acall_ofI mix10 Tryd.func4 ok10_plaw10_PathRow h
theorem ok10_pref09_ints : cFun Tryd.prog H_pref09_ints Tryd.f60 = some (c_pref09_ints F10) := by kernel_rfl
theorem a10_pref09_ints {xs : List Arg} {rv : RV} {outs : List Blk} (h : (c_pref09_ints F10).gives (ACallI I10 Tryd.prog) xs rv outs) : ACallI I10 Tryd.prog (F10 n_pref09_ints) xs rv outs := acall_ofI mix10 Tryd.func60 ok10_pref09_ints h
theorem ok10_pref09_Texts : cFun Tryd.prog H_pref09_Texts Tryd.f39 = some (c_pref09_Texts F10) := by kernel_rfl
theorem a10_pref09_Texts {xs : List Arg} {rv : RV} {outs : List Blk} (h : (c_pref09_Texts F10).gives (ACallI I10 Tryd.prog) xs rv outs) : ACallI I10 Tryd.prog (F10 n_pref09_Texts) xs rv outs := acall_ofI mix10 Tryd.func39 ok10_pref09_Texts h
theorem ok10_pref10_Compare : cFun Tryd.prog H_pref10_Compare Tryd.f18 = some (c_pref10_Compare F10) := by kernel_rfl
theorem a10_pref10_Compare {xs : List Arg} {rv : RV} {outs : List Blk} (h : (c_pref10_Compare F10).gives (ACallI I10 Tryd.prog) xs rv outs) : ACallI I10 Tryd.prog (F10 n_pref10_Compare) xs rv outs := acall_ofI mix10 Tryd.func18 ok10_pref10_Compare h
theorem ok10_pref10_Under : cFun Tryd.prog H_pref10_Under Tryd.f19 = some (c_pref10_Under F10) := by kernel_rfl
theorem a10_pref10_Under {xs : List Arg} {rv : RV} {outs : List Blk} (h : (c_pref10_Under F10).gives (ACallI I10 Tryd.prog) xs rv outs) : ACallI I10 Tryd.prog (F10 n_pref10_Under) xs rv outs := acall_ofI mix10 Tryd.func19 ok10_pref10_Under h
theorem ok10_pref03_Quote : cFun Tryd.prog H_pref03_Quote Tryd.f42 = some (c_pref03_Quote F10) := by kernel_rfl
theorem a10_pref03_Quote {xs : List Arg} {rv : RV} {outs : List Blk} (h : (c_pref03_Quote F10).gives (ACallI I10 Tryd.prog) xs rv outs) : ACallI I10 Tryd.prog (F10 n_pref03_Quote) xs rv outs := acall_ofI mix10 Tryd.func42 ok10_pref03_Quote h
theorem ok10_pref10_Text : cFun Tryd.prog H_pref10_Text Tryd.f21 = some (c_pref10_Text F10) := by kernel_rfl
theorem a10_pref10_Text {xs : List Arg} {rv : RV} {outs : List Blk} (h : (c_pref10_Text F10).gives (ACallI I10 Tryd.prog) xs rv outs) : ACallI I10 Tryd.prog (F10 n_pref10_Text) xs rv outs := acall_ofI mix10 Tryd.func21 ok10_pref10_Text h
theorem ok10_pack_Int : cFun Tryd.prog H_pack_Int Tryd.f43 = some (c_pack_Int F10) := by kernel_rfl
theorem a10_pack_Int {xs : List Arg} {rv : RV} {outs : List Blk} (h : (c_pack_Int F10).gives (ACallI I10 Tryd.prog) xs rv outs) : ACallI I10 Tryd.prog (F10 n_pack_Int) xs rv outs := acall_ofI mix10 Tryd.func43 ok10_pack_Int h
theorem ok10_pack_Text : cFun Tryd.prog H_pack_Text Tryd.f44 = some (c_pack_Text F10) := by kernel_rfl
theorem a10_pack_Text {xs : List Arg} {rv : RV} {outs : List Blk} (h : (c_pack_Text F10).gives (ACallI I10 Tryd.prog) xs rv outs) : ACallI I10 Tryd.prog (F10 n_pack_Text) xs rv outs := acall_ofI mix10 Tryd.func44 ok10_pack_Text h
theorem ok10_path_Code : cFun Tryd.prog H_path_Code Tryd.f22 = some (c_path_Code F10) := by kernel_rfl
theorem a10_path_Code {xs : List Arg} {rv : RV} {outs : List Blk} (h : (c_path_Code F10).gives (ACallI I10 Tryd.prog) xs rv outs) : ACallI I10 Tryd.prog (F10 n_path_Code) xs rv outs := acall_ofI mix10 Tryd.func22 ok10_path_Code h
theorem ok10_pref02_Int : cFun Tryd.prog H_pref02_Int Tryd.f45 = some (c_pref02_Int F10) := by kernel_rfl
theorem a10_pref02_Int {xs : List Arg} {rv : RV} {outs : List Blk} (h : (c_pref02_Int F10).gives (ACallI I10 Tryd.prog) xs rv outs) : ACallI I10 Tryd.prog (F10 n_pref02_Int) xs rv outs := acall_ofI mix10 Tryd.func45 ok10_pref02_Int h
theorem ok10_pref02_Text : cFun Tryd.prog H_pref02_Text Tryd.f46 = some (c_pref02_Text F10) := by kernel_rfl
theorem a10_pref02_Text {xs : List Arg} {rv : RV} {outs : List Blk} (h : (c_pref02_Text F10).gives (ACallI I10 Tryd.prog) xs rv outs) : ACallI I10 Tryd.prog (F10 n_pref02_Text) xs rv outs := acall_ofI mix10 Tryd.func46 ok10_pref02_Text h
theorem ok10_pref10_Code : cFun Tryd.prog H_pref10_Code Tryd.f23 = some (c_pref10_Code F10) := by kernel_rfl
theorem a10_pref10_Code {xs : List Arg} {rv : RV} {outs : List Blk} (h : (c_pref10_Code F10).gives (ACallI I10 Tryd.prog) xs rv outs) : ACallI I10 Tryd.prog (F10 n_pref10_Code) xs rv outs := acall_ofI mix10 Tryd.func23 ok10_pref10_Code h
theorem ok10_plaw10_PathTells : cFun Tryd.prog H_plaw10_PathTells Tryd.f5 = some (c_plaw10_PathTells F10) := by kernel_rfl
theorem a10_plaw10_PathTells {xs : List Arg} {rv : RV} {outs : List Blk} (h : (c_plaw10_PathTells F10).gives (ACallI I10 Tryd.prog) xs rv outs) : ACallI I10 Tryd.prog (F10 n_plaw10_PathTells) xs rv outs := acall_ofI mix10 Tryd.func5 ok10_plaw10_PathTells h
theorem ok10_pack_Open : cFun Tryd.prog H_pack_Open Tryd.f24 = some (c_pack_Open F10) := by kernel_rfl
theorem a10_pack_Open {xs : List Arg} {rv : RV} {outs : List Blk} (h : (c_pack_Open F10).gives (ACallI I10 Tryd.prog) xs rv outs) : ACallI I10 Tryd.prog (F10 n_pack_Open) xs rv outs := acall_ofI mix10 Tryd.func24 ok10_pack_Open h
theorem ok10_pack_Reader_fine : cFun Tryd.prog H_pack_Reader_fine Tryd.f53 = some (c_pack_Reader_fine F10) := by kernel_rfl
theorem a10_pack_Reader_fine {xs : List Arg} {rv : RV} {outs : List Blk} (h : (c_pack_Reader_fine F10).gives (ACallI I10 Tryd.prog) xs rv outs) : ACallI I10 Tryd.prog (F10 n_pack_Reader_fine) xs rv outs := acall_ofI mix10 Tryd.func53 ok10_pack_Reader_fine h
theorem ok10_pack_Reader_Fail : cFun Tryd.prog H_pack_Reader_Fail Tryd.f49 = some (c_pack_Reader_Fail F10) := by kernel_rfl
theorem a10_pack_Reader_Fail {xs : List Arg} {rv : RV} {outs : List Blk} (h : (c_pack_Reader_Fail F10).gives (ACallI I10 Tryd.prog) xs rv outs) : ACallI I10 Tryd.prog (F10 n_pack_Reader_Fail) xs rv outs := acall_ofI mix10 Tryd.func49 ok10_pack_Reader_Fail h
theorem ok10_pack_Reader_Int : cFun Tryd.prog H_pack_Reader_Int Tryd.f65 = some (c_pack_Reader_Int F10) := by kernel_rfl
theorem a10_pack_Reader_Int {xs : List Arg} {rv : RV} {outs : List Blk} (h : (c_pack_Reader_Int F10).gives (ACallI I10 Tryd.prog) xs rv outs) : ACallI I10 Tryd.prog (F10 n_pack_Reader_Int) xs rv outs := acall_ofI mix10 Tryd.func65 ok10_pack_Reader_Int h
theorem ok10_pack_Reader_Many : cFun Tryd.prog H_pack_Reader_Many Tryd.f47 = some (c_pack_Reader_Many F10) := by kernel_rfl
theorem a10_pack_Reader_Many {xs : List Arg} {rv : RV} {outs : List Blk} (h : (c_pack_Reader_Many F10).gives (ACallI I10 Tryd.prog) xs rv outs) : ACallI I10 Tryd.prog (F10 n_pack_Reader_Many) xs rv outs := acall_ofI mix10 Tryd.func47 ok10_pack_Reader_Many h
theorem ok10_pack_Reader_Text : cFun Tryd.prog H_pack_Reader_Text Tryd.f48 = some (c_pack_Reader_Text F10) := by kernel_rfl
theorem a10_pack_Reader_Text {xs : List Arg} {rv : RV} {outs : List Blk} (h : (c_pack_Reader_Text F10).gives (ACallI I10 Tryd.prog) xs rv outs) : ACallI I10 Tryd.prog (F10 n_pack_Reader_Text) xs rv outs := acall_ofI mix10 Tryd.func48 ok10_pack_Reader_Text h
theorem ok10_pack_Reader_Fault : cFun Tryd.prog H_pack_Reader_Fault Tryd.f27 = some (c_pack_Reader_Fault F10) := by kernel_rfl
theorem a10_pack_Reader_Fault {xs : List Arg} {rv : RV} {outs : List Blk} (h : (c_pack_Reader_Fault F10).gives (ACallI I10 Tryd.prog) xs rv outs) : ACallI I10 Tryd.prog (F10 n_pack_Reader_Fault) xs rv outs := acall_ofI mix10 Tryd.func27 ok10_pack_Reader_Fault h
theorem ok10_path_Read : cFun Tryd.prog H_path_Read Tryd.f25 = some (c_path_Read F10) := by kernel_rfl
theorem a10_path_Read {xs : List Arg} {rv : RV} {outs : List Blk} (h : (c_path_Read F10).gives (ACallI I10 Tryd.prog) xs rv outs) : ACallI I10 Tryd.prog (F10 n_path_Read) xs rv outs := acall_ofI mix10 Tryd.func25 ok10_path_Read h
theorem ok10_pref02_Reader_Int : cFun Tryd.prog H_pref02_Reader_Int Tryd.f66 = some (c_pref02_Reader_Int F10) := by kernel_rfl
theorem a10_pref02_Reader_Int {xs : List Arg} {rv : RV} {outs : List Blk} (h : (c_pref02_Reader_Int F10).gives (ACallI I10 Tryd.prog) xs rv outs) : ACallI I10 Tryd.prog (F10 n_pref02_Reader_Int) xs rv outs := acall_ofI mix10 Tryd.func66 ok10_pref02_Reader_Int h
theorem ok10_pref02_Reader_Many : cFun Tryd.prog H_pref02_Reader_Many Tryd.f50 = some (c_pref02_Reader_Many F10) := by kernel_rfl
theorem a10_pref02_Reader_Many {xs : List Arg} {rv : RV} {outs : List Blk} (h : (c_pref02_Reader_Many F10).gives (ACallI I10 Tryd.prog) xs rv outs) : ACallI I10 Tryd.prog (F10 n_pref02_Reader_Many) xs rv outs := acall_ofI mix10 Tryd.func50 ok10_pref02_Reader_Many h
theorem ok10_pref02_Reader_Text : cFun Tryd.prog H_pref02_Reader_Text Tryd.f51 = some (c_pref02_Reader_Text F10) := by kernel_rfl
theorem a10_pref02_Reader_Text {xs : List Arg} {rv : RV} {outs : List Blk} (h : (c_pref02_Reader_Text F10).gives (ACallI I10 Tryd.prog) xs rv outs) : ACallI I10 Tryd.prog (F10 n_pref02_Reader_Text) xs rv outs := acall_ofI mix10 Tryd.func51 ok10_pref02_Reader_Text h
theorem ok10_pref02_Reader_Fail : cFun Tryd.prog H_pref02_Reader_Fail Tryd.f52 = some (c_pref02_Reader_Fail F10) := by kernel_rfl
theorem a10_pref02_Reader_Fail {xs : List Arg} {rv : RV} {outs : List Blk} (h : (c_pref02_Reader_Fail F10).gives (ACallI I10 Tryd.prog) xs rv outs) : ACallI I10 Tryd.prog (F10 n_pref02_Reader_Fail) xs rv outs := acall_ofI mix10 Tryd.func52 ok10_pref02_Reader_Fail h
theorem ok10_pref10_Read : cFun Tryd.prog H_pref10_Read Tryd.f26 = some (c_pref10_Read F10) := by kernel_rfl
theorem a10_pref10_Read {xs : List Arg} {rv : RV} {outs : List Blk} (h : (c_pref10_Read F10).gives (ACallI I10 Tryd.prog) xs rv outs) : ACallI I10 Tryd.prog (F10 n_pref10_Read) xs rv outs := acall_ofI mix10 Tryd.func26 ok10_pref10_Read h
theorem ok10_pack_Reader_Left : cFun Tryd.prog H_pack_Reader_Left Tryd.f28 = some (c_pack_Reader_Left F10) := by kernel_rfl
theorem a10_pack_Reader_Left {xs : List Arg} {rv : RV} {outs : List Blk} (h : (c_pack_Reader_Left F10).gives (ACallI I10 Tryd.prog) xs rv outs) : ACallI I10 Tryd.prog (F10 n_pack_Reader_Left) xs rv outs := acall_ofI mix10 Tryd.func28 ok10_pack_Reader_Left h
theorem ok10_pref02_Reader_Left : cFun Tryd.prog H_pref02_Reader_Left Tryd.f29 = some (c_pref02_Reader_Left F10) := by kernel_rfl
theorem a10_pref02_Reader_Left {xs : List Arg} {rv : RV} {outs : List Blk} (h : (c_pref02_Reader_Left F10).gives (ACallI I10 Tryd.prog) xs rv outs) : ACallI I10 Tryd.prog (F10 n_pref02_Reader_Left) xs rv outs := acall_ofI mix10 Tryd.func29 ok10_pref02_Reader_Left h
theorem ok10_plaw10_PathReads : cFun Tryd.prog H_plaw10_PathReads Tryd.f6 = some (c_plaw10_PathReads F10) := by kernel_rfl
theorem a10_plaw10_PathReads {xs : List Arg} {rv : RV} {outs : List Blk} (h : (c_plaw10_PathReads F10).gives (ACallI I10 Tryd.prog) xs rv outs) : ACallI I10 Tryd.prog (F10 n_plaw10_PathReads) xs rv outs := acall_ofI mix10 Tryd.func6 ok10_plaw10_PathReads h
theorem ok10_pack_Reader_End : cFun Tryd.prog H_pack_Reader_End Tryd.f30 = some (c_pack_Reader_End F10) := by kernel_rfl
theorem a10_pack_Reader_End {xs : List Arg} {rv : RV} {outs : List Blk} (h : (c_pack_Reader_End F10).gives (ACallI I10 Tryd.prog) xs rv outs) : ACallI I10 Tryd.prog (F10 n_pack_Reader_End) xs rv outs := acall_ofI mix10 Tryd.func30 ok10_pack_Reader_End h
theorem ok10_plaw10_PathBack : cFun Tryd.prog H_plaw10_PathBack Tryd.f7 = some (c_plaw10_PathBack F10) := by kernel_rfl
theorem a10_plaw10_PathBack {xs : List Arg} {rv : RV} {outs : List Blk} (h : (c_plaw10_PathBack F10).gives (ACallI I10 Tryd.prog) xs rv outs) : ACallI I10 Tryd.prog (F10 n_plaw10_PathBack) xs rv outs := acall_ofI mix10 Tryd.func7 ok10_plaw10_PathBack h
end Go.AR
