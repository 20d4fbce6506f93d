import Derived.Test.YtmhhpifepghbbaaG25
import Derived.Test.YtmhhpifepghbbaaG03
import Derived.Test.YtmhhpifepghbbaaG02
import Derived.Test.YtmhhpifepghbbaaG05
import Derived.Test.YtmhhpifepghbbaaG04
import Derived.Test.YtmhhpifepghbbaaG09
import Derived.Test.YtmhhpifepghbbaaG32
import Derived.Test.YtmhhpifepghbbaaG35
import Derived.Test.YtmhhpifepghbbaaChecked
import Derived.KernelRfl
set_option linter.all false
/-! The seat: which function is which. Printed by program. -/
namespace Go.AR
open Go Go.Proofs
def F16 : Nat → FuncId := fun i => (get [(23, 0), (24, 1), (25, 2), (42, 58), (43, 59), (44, 60), (45, 61), (46, 62), (47, 63), (48, 64), (49, 65), (50, 66), (51, 67), (52, 68), (53, 69), (54, 70), (55, 71), (56, 72), (57, 73), (93, 35), (109, 5), (136, 14), (139, 26), (141, 17), (144, 25), (146, 27), (147, 18), (158, 39), (161, 47), (162, 38), (163, 33), (165, 46), (166, 52), (167, 42), (171, 56), (172, 55), (174, 57), (184, 50), (186, 49), (192, 54), (193, 53), (200, 5), (203, 32), (206, 43), (207, 30), (218, 41), (221, 40), (225, 48), (238, 34), (239, 36), (244, 31), (245, 29), (247, 45), (251, 37), (252, 28), (259, 44), (264, 51), (281, 23), (283, 24), (295, 22), (307, 13), (322, 4), (324, 7), (325, 19), (330, 8), (332, 21), (333, 20), (343, 16), (346, 3), (347, 6), (348, 9), (349, 10), (350, 11), (351, 12), (352, 15)] i).getD 0
abbrev C16 : CallRel := ACall Try.prog
theorem mix16 : Try.prog.follows .mixedOrders = true := by kernel_rfl
end Go.AR

namespace Go.AR
open Go Go.Proofs
theorem ok16_plaw16_inc : cFun Try.prog H_plaw16_inc Try.f15 = some (c_plaw16_inc F16) := by kernel_rfl
theorem a16_plaw16_inc {xs : List Arg} {rv : RV} {outs : List Blk} (h : (c_plaw16_inc F16).gives (ACall Try.prog) xs rv outs) : ACall Try.prog (F16 n_plaw16_inc) xs rv outs := acall_of mix16 Try.func15 ok16_plaw16_inc h
theorem ok16_slices_BinarySearchFunc_api_Undo_api_Undo_api_Undo : cFun Try.prog H_slices_BinarySearchFunc_api_Undo_api_Undo_api_Undo Try.f46 = some (c_slices_BinarySearchFunc_api_Undo_api_Undo_api_Undo F16) := by kernel_rfl
theorem a16_slices_BinarySearchFunc_api_Undo_api_Undo_api_Undo {xs : List Arg} {rv : RV} {outs : List Blk} (h : (c_slices_BinarySearchFunc_api_Undo_api_Undo_api_Undo F16).gives (ACall Try.prog) xs rv outs) : ACall Try.prog (F16 n_slices_BinarySearchFunc_api_Undo_api_Undo_api_Undo) xs rv outs := acall_of mix16 Try.func46 ok16_slices_BinarySearchFunc_api_Undo_api_Undo_api_Undo h
theorem ok16_cmp_isNaN_int : cFun Try.prog H_cmp_isNaN_int Try.f57 = some (c_cmp_isNaN_int F16) := by kernel_rfl
theorem a16_cmp_isNaN_int {xs : List Arg} {rv : RV} {outs : List Blk} (h : (c_cmp_isNaN_int F16).gives (ACall Try.prog) xs rv outs) : ACall Try.prog (F16 n_cmp_isNaN_int) xs rv outs := acall_of mix16 Try.func57 ok16_cmp_isNaN_int h
theorem ok16_cmp_Compare_int : cFun Try.prog H_cmp_Compare_int Try.f56 = some (c_cmp_Compare_int F16) := by kernel_rfl
theorem a16_cmp_Compare_int {xs : List Arg} {rv : RV} {outs : List Blk} (h : (c_cmp_Compare_int F16).gives (ACall Try.prog) xs rv outs) : ACall Try.prog (F16 n_cmp_Compare_int) xs rv outs := acall_of mix16 Try.func56 ok16_cmp_Compare_int h
theorem ok16_cmp_Or_int : cFun Try.prog H_cmp_Or_int Try.f55 = some (c_cmp_Or_int F16) := by kernel_rfl
theorem a16_cmp_Or_int {xs : List Arg} {rv : RV} {outs : List Blk} (h : (c_cmp_Or_int F16).gives (ACall Try.prog) xs rv outs) : ACall Try.prog (F16 n_cmp_Or_int) xs rv outs := acall_of mix16 Try.func55 ok16_cmp_Or_int h
theorem ok16_dot_Compare : cFun Try.prog H_dot_Compare Try.f52 = some (c_dot_Compare F16) := by kernel_rfl
theorem a16_dot_Compare {xs : List Arg} {rv : RV} {outs : List Blk} (h : (c_dot_Compare F16).gives (ACall Try.prog) xs rv outs) : ACall Try.prog (F16 n_dot_Compare) xs rv outs := acall_of mix16 Try.func52 ok16_dot_Compare h
theorem ok16_tally_compare : cFun Try.prog H_tally_compare Try.f47 = some (c_tally_compare F16) := by kernel_rfl
theorem a16_tally_compare {xs : List Arg} {rv : RV} {outs : List Blk} (h : (c_tally_compare F16).gives (ACall Try.prog) xs rv outs) : ACall Try.prog (F16 n_tally_compare) xs rv outs := acall_of mix16 Try.func47 ok16_tally_compare h
theorem ok16_tally_at : cFun Try.prog H_tally_at Try.f39 = some (c_tally_at F16) := by kernel_rfl
theorem a16_tally_at {xs : List Arg} {rv : RV} {outs : List Blk} (h : (c_tally_at F16).gives (ACall Try.prog) xs rv outs) : ACall Try.prog (F16 n_tally_at) xs rv outs := acall_of mix16 Try.func39 ok16_tally_at h
theorem ok16_tally_Get : cFun Try.prog H_tally_Get Try.f26 = some (c_tally_Get F16) := by kernel_rfl
theorem a16_tally_Get {xs : List Arg} {rv : RV} {outs : List Blk} (h : (c_tally_Get F16).gives (ACall Try.prog) xs rv outs) : ACall Try.prog (F16 n_tally_Get) xs rv outs := acall_of mix16 Try.func26 ok16_tally_Get h
theorem ok16_tally_Seen : cFun Try.prog H_tally_Seen Try.f17 = some (c_tally_Seen F16) := by kernel_rfl
theorem a16_tally_Seen {xs : List Arg} {rv : RV} {outs : List Blk} (h : (c_tally_Seen F16).gives (ACall Try.prog) xs rv outs) : ACall Try.prog (F16 n_tally_Seen) xs rv outs := acall_of mix16 Try.func17 ok16_tally_Seen h
theorem ok16_live_covered : cFun Try.prog H_live_covered Try.f16 = some (c_live_covered F16) := by kernel_rfl
theorem a16_live_covered {xs : List Arg} {rv : RV} {outs : List Blk} (h : (c_live_covered F16).gives (ACall Try.prog) xs rv outs) : ACall Try.prog (F16 n_live_covered) xs rv outs := acall_of mix16 Try.func16 ok16_live_covered h
theorem ok16_live_All : cFun Try.prog H_live_All Try.f7 = some (c_live_All F16) := by kernel_rfl
theorem a16_live_All {xs : List Arg} {rv : RV} {outs : List Blk} (h : (c_live_All F16).gives (ACall Try.prog) xs rv outs) : ACall Try.prog (F16 n_live_All) xs rv outs := acall_of mix16 Try.func7 ok16_live_All h
theorem ok16_op_Leaf : cFun Try.prog H_op_Leaf Try.f31 = some (c_op_Leaf F16) := by kernel_rfl
theorem a16_op_Leaf {xs : List Arg} {rv : RV} {outs : List Blk} (h : (c_op_Leaf F16).gives (ACall Try.prog) xs rv outs) : ACall Try.prog (F16 n_op_Leaf) xs rv outs := acall_of mix16 Try.func31 ok16_op_Leaf h
theorem ok16_slices_Equal_string_string : cFun Try.prog H_slices_Equal_string_string Try.f41 = some (c_slices_Equal_string_string F16) := by kernel_rfl
theorem a16_slices_Equal_string_string {xs : List Arg} {rv : RV} {outs : List Blk} (h : (c_slices_Equal_string_string F16).gives (ACall Try.prog) xs rv outs) : ACall Try.prog (F16 n_slices_Equal_string_string) xs rv outs := acall_of mix16 Try.func41 ok16_slices_Equal_string_string h
theorem ok16_path_Same : cFun Try.prog H_path_Same Try.f32 = some (c_path_Same F16) := by kernel_rfl
theorem a16_path_Same {xs : List Arg} {rv : RV} {outs : List Blk} (h : (c_path_Same F16).gives (ACall Try.prog) xs rv outs) : ACall Try.prog (F16 n_path_Same) xs rv outs := acall_of mix16 Try.func32 ok16_path_Same h
theorem ok16_live_At : cFun Try.prog H_live_At Try.f21 = some (c_live_At F16) := by kernel_rfl
theorem a16_live_At {xs : List Arg} {rv : RV} {outs : List Blk} (h : (c_live_At F16).gives (ACall Try.prog) xs rv outs) : ACall Try.prog (F16 n_live_At) xs rv outs := acall_of mix16 Try.func21 ok16_live_At h
theorem ok16_total_Sum : cFun Try.prog H_total_Sum Try.f11 = some (c_total_Sum F16) := by kernel_rfl
theorem a16_total_Sum {xs : List Arg} {rv : RV} {outs : List Blk} (h : (c_total_Sum F16).gives (ACall Try.prog) xs rv outs) : ACall Try.prog (F16 n_total_Sum) xs rv outs := acall_of mix16 Try.func11 ok16_total_Sum h
theorem ok16_total_Count : cFun Try.prog H_total_Count Try.f12 = some (c_total_Count F16) := by kernel_rfl
theorem a16_total_Count {xs : List Arg} {rv : RV} {outs : List Blk} (h : (c_total_Count F16).gives (ACall Try.prog) xs rv outs) : ACall Try.prog (F16 n_total_Count) xs rv outs := acall_of mix16 Try.func12 ok16_total_Count h
theorem ok16_plaw16_awake : cFun Try.prog H_plaw16_awake Try.f6 = some (c_plaw16_awake F16) := by kernel_rfl
theorem a16_plaw16_awake {xs : List Arg} {rv : RV} {outs : List Blk} (h : (c_plaw16_awake F16).gives (ACall Try.prog) xs rv outs) : ACall Try.prog (F16 n_plaw16_awake) xs rv outs := acall_of mix16 Try.func6 ok16_plaw16_awake h
theorem ok16_pref04_ints : cFun Try.prog H_pref04_ints Try.f42 = some (c_pref04_ints F16) := by kernel_rfl
theorem a16_pref04_ints {xs : List Arg} {rv : RV} {outs : List Blk} (h : (c_pref04_ints F16).gives (ACall Try.prog) xs rv outs) : ACall Try.prog (F16 n_pref04_ints) xs rv outs := acall_of mix16 Try.func42 ok16_pref04_ints h
theorem ok16_pref04_Compare : cFun Try.prog H_pref04_Compare Try.f33 = some (c_pref04_Compare F16) := by kernel_rfl
theorem a16_pref04_Compare {xs : List Arg} {rv : RV} {outs : List Blk} (h : (c_pref04_Compare F16).gives (ACall Try.prog) xs rv outs) : ACall Try.prog (F16 n_pref04_Compare) xs rv outs := acall_of mix16 Try.func33 ok16_pref04_Compare h
theorem ok16_pref12_Rises : cFun Try.prog H_pref12_Rises Try.f22 = some (c_pref12_Rises F16) := by kernel_rfl
theorem a16_pref12_Rises {xs : List Arg} {rv : RV} {outs : List Blk} (h : (c_pref12_Rises F16).gives (ACall Try.prog) xs rv outs) : ACall Try.prog (F16 n_pref12_Rises) xs rv outs := acall_of mix16 Try.func22 ok16_pref12_Rises h
theorem ok16_pref10_Short : cFun Try.prog H_pref10_Short Try.f5 = some (c_pref10_Short F16) := by kernel_rfl
theorem a16_pref10_Short {xs : List Arg} {rv : RV} {outs : List Blk} (h : (c_pref10_Short F16).gives (ACall Try.prog) xs rv outs) : ACall Try.prog (F16 n_pref10_Short) xs rv outs := acall_of mix16 Try.func5 ok16_pref10_Short h
theorem ok16_pref11_Short : cFun Try.prog H_pref11_Short Try.f34 = some (c_pref11_Short F16) := by kernel_rfl
theorem a16_pref11_Short {xs : List Arg} {rv : RV} {outs : List Blk} (h : (c_pref11_Short F16).gives (ACall Try.prog) xs rv outs) : ACall Try.prog (F16 n_pref11_Short) xs rv outs := acall_of mix16 Try.func34 ok16_pref11_Short h
theorem ok16_pref12_Short : cFun Try.prog H_pref12_Short Try.f23 = some (c_pref12_Short F16) := by kernel_rfl
theorem a16_pref12_Short {xs : List Arg} {rv : RV} {outs : List Blk} (h : (c_pref12_Short F16).gives (ACall Try.prog) xs rv outs) : ACall Try.prog (F16 n_pref12_Short) xs rv outs := acall_of mix16 Try.func23 ok16_pref12_Short h
theorem ok16_pref04_Right : cFun Try.prog H_pref04_Right Try.f35 = some (c_pref04_Right F16) := by kernel_rfl
theorem a16_pref04_Right {xs : List Arg} {rv : RV} {outs : List Blk} (h : (c_pref04_Right F16).gives (ACall Try.prog) xs rv outs) : ACall Try.prog (F16 n_pref04_Right) xs rv outs := acall_of mix16 Try.func35 ok16_pref04_Right h
theorem ok16_pref11_Gone : cFun Try.prog H_pref11_Gone Try.f37 = some (c_pref11_Gone F16) := by kernel_rfl
theorem a16_pref11_Gone {xs : List Arg} {rv : RV} {outs : List Blk} (h : (c_pref11_Gone F16).gives (ACall Try.prog) xs rv outs) : ACall Try.prog (F16 n_pref11_Gone) xs rv outs := acall_of mix16 Try.func37 ok16_pref11_Gone h
theorem ok16_pref03_Char : cFun Try.prog H_pref03_Char Try.f54 = some (c_pref03_Char F16) := by kernel_rfl
theorem a16_pref03_Char {xs : List Arg} {rv : RV} {outs : List Blk} (h : (c_pref03_Char F16).gives (ACall Try.prog) xs rv outs) : ACall Try.prog (F16 n_pref03_Char) xs rv outs := acall_of mix16 Try.func54 ok16_pref03_Char h
theorem ok16_pref03_Runes : cFun Try.prog H_pref03_Runes Try.f50 = some (c_pref03_Runes F16) := by kernel_rfl
theorem a16_pref03_Runes {xs : List Arg} {rv : RV} {outs : List Blk} (h : (c_pref03_Runes F16).gives (ACall Try.prog) xs rv outs) : ACall Try.prog (F16 n_pref03_Runes) xs rv outs := acall_of mix16 Try.func50 ok16_pref03_Runes h
theorem ok16_pref03_may : cFun Try.prog H_pref03_may Try.f53 = some (c_pref03_may F16) := by kernel_rfl
theorem a16_pref03_may {xs : List Arg} {rv : RV} {outs : List Blk} (h : (c_pref03_may F16).gives (ACall Try.prog) xs rv outs) : ACall Try.prog (F16 n_pref03_may) xs rv outs := acall_of mix16 Try.func53 ok16_pref03_may h
theorem ok16_pref03_Right : cFun Try.prog H_pref03_Right Try.f49 = some (c_pref03_Right F16) := by kernel_rfl
theorem a16_pref03_Right {xs : List Arg} {rv : RV} {outs : List Blk} (h : (c_pref03_Right F16).gives (ACall Try.prog) xs rv outs) : ACall Try.prog (F16 n_pref03_Right) xs rv outs := acall_of mix16 Try.func49 ok16_pref03_Right h
theorem ok16_pref10_Check : cFun Try.prog H_pref10_Check Try.f43 = some (c_pref10_Check F16) := by kernel_rfl
theorem a16_pref10_Check {xs : List Arg} {rv : RV} {outs : List Blk} (h : (c_pref10_Check F16).gives (ACall Try.prog) xs rv outs) : ACall Try.prog (F16 n_pref10_Check) xs rv outs := acall_of mix16 Try.func43 ok16_pref10_Check h
theorem ok16_pref09_Right : cFun Try.prog H_pref09_Right Try.f44 = some (c_pref09_Right F16) := by kernel_rfl
theorem a16_pref09_Right {xs : List Arg} {rv : RV} {outs : List Blk} (h : (c_pref09_Right F16).gives (ACall Try.prog) xs rv outs) : ACall Try.prog (F16 n_pref09_Right) xs rv outs := acall_of mix16 Try.func44 ok16_pref09_Right h
theorem ok16_pref04_Refs : cFun Try.prog H_pref04_Refs Try.f51 = some (c_pref04_Refs F16) := by kernel_rfl
theorem a16_pref04_Refs {xs : List Arg} {rv : RV} {outs : List Blk} (h : (c_pref04_Refs F16).gives (ACall Try.prog) xs rv outs) : ACall Try.prog (F16 n_pref04_Refs) xs rv outs := acall_of mix16 Try.func51 ok16_pref04_Refs h
theorem ok16_pref11_Refs : cFun Try.prog H_pref11_Refs Try.f45 = some (c_pref11_Refs F16) := by kernel_rfl
theorem a16_pref11_Refs {xs : List Arg} {rv : RV} {outs : List Blk} (h : (c_pref11_Refs F16).gives (ACall Try.prog) xs rv outs) : ACall Try.prog (F16 n_pref11_Refs) xs rv outs := acall_of mix16 Try.func45 ok16_pref11_Refs h
theorem ok16_pref11_Check : cFun Try.prog H_pref11_Check Try.f36 = some (c_pref11_Check F16) := by kernel_rfl
theorem a16_pref11_Check {xs : List Arg} {rv : RV} {outs : List Blk} (h : (c_pref11_Check F16).gives (ACall Try.prog) xs rv outs) : ACall Try.prog (F16 n_pref11_Check) xs rv outs := acall_of mix16 Try.func36 ok16_pref11_Check h
theorem ok16_pref12_Check : cFun Try.prog H_pref12_Check Try.f24 = some (c_pref12_Check F16) := by kernel_rfl
theorem a16_pref12_Check {xs : List Arg} {rv : RV} {outs : List Blk} (h : (c_pref12_Check F16).gives (ACall Try.prog) xs rv outs) : ACall Try.prog (F16 n_pref12_Check) xs rv outs := acall_of mix16 Try.func24 ok16_pref12_Check h
theorem ok16_pref12_Good : cFun Try.prog H_pref12_Good Try.f13 = some (c_pref12_Good F16) := by kernel_rfl
theorem a16_pref12_Good {xs : List Arg} {rv : RV} {outs : List Blk} (h : (c_pref12_Good F16).gives (ACall Try.prog) xs rv outs) : ACall Try.prog (F16 n_pref12_Good) xs rv outs := acall_of mix16 Try.func13 ok16_pref12_Good h
theorem ok16_pref08_one : cFun Try.prog H_pref08_one Try.f38 = some (c_pref08_one F16) := by kernel_rfl
theorem a16_pref08_one {xs : List Arg} {rv : RV} {outs : List Blk} (h : (c_pref08_one F16).gives (ACall Try.prog) xs rv outs) : ACall Try.prog (F16 n_pref08_one) xs rv outs := acall_of mix16 Try.func38 ok16_pref08_one h
theorem ok16_pref08_Right : cFun Try.prog H_pref08_Right Try.f25 = some (c_pref08_Right F16) := by kernel_rfl
theorem a16_pref08_Right {xs : List Arg} {rv : RV} {outs : List Blk} (h : (c_pref08_Right F16).gives (ACall Try.prog) xs rv outs) : ACall Try.prog (F16 n_pref08_Right) xs rv outs := acall_of mix16 Try.func25 ok16_pref08_Right h
theorem ok16_pref08_Good : cFun Try.prog H_pref08_Good Try.f14 = some (c_pref08_Good F16) := by kernel_rfl
theorem a16_pref08_Good {xs : List Arg} {rv : RV} {outs : List Blk} (h : (c_pref08_Good F16).gives (ACall Try.prog) xs rv outs) : ACall Try.prog (F16 n_pref08_Good) xs rv outs := acall_of mix16 Try.func14 ok16_pref08_Good h
theorem ok16_plaw13_Good : cFun Try.prog H_plaw13_Good Try.f4 = some (c_plaw13_Good F16) := by kernel_rfl
theorem a16_plaw13_Good {xs : List Arg} {rv : RV} {outs : List Blk} (h : (c_plaw13_Good F16).gives (ACall Try.prog) xs rv outs) : ACall Try.prog (F16 n_plaw13_Good) xs rv outs := acall_of mix16 Try.func4 ok16_plaw13_Good h
theorem ok16_pref11_Covers : cFun Try.prog H_pref11_Covers Try.f28 = some (c_pref11_Covers F16) := by kernel_rfl
theorem a16_pref11_Covers {xs : List Arg} {rv : RV} {outs : List Blk} (h : (c_pref11_Covers F16).gives (ACall Try.prog) xs rv outs) : ACall Try.prog (F16 n_pref11_Covers) xs rv outs := acall_of mix16 Try.func28 ok16_pref11_Covers h
theorem ok16_pref08_Get : cFun Try.prog H_pref08_Get Try.f27 = some (c_pref08_Get F16) := by kernel_rfl
theorem a16_pref08_Get {xs : List Arg} {rv : RV} {outs : List Blk} (h : (c_pref08_Get F16).gives (ACall Try.prog) xs rv outs) : ACall Try.prog (F16 n_pref08_Get) xs rv outs := acall_of mix16 Try.func27 ok16_pref08_Get h
theorem ok16_pref08_Seen : cFun Try.prog H_pref08_Seen Try.f18 = some (c_pref08_Seen F16) := by kernel_rfl
theorem a16_pref08_Seen {xs : List Arg} {rv : RV} {outs : List Blk} (h : (c_pref08_Seen F16).gives (ACall Try.prog) xs rv outs) : ACall Try.prog (F16 n_pref08_Seen) xs rv outs := acall_of mix16 Try.func18 ok16_pref08_Seen h
theorem ok16_pref13_Covered : cFun Try.prog H_pref13_Covered Try.f19 = some (c_pref13_Covered F16) := by kernel_rfl
theorem a16_pref13_Covered {xs : List Arg} {rv : RV} {outs : List Blk} (h : (c_pref13_Covered F16).gives (ACall Try.prog) xs rv outs) : ACall Try.prog (F16 n_pref13_Covered) xs rv outs := acall_of mix16 Try.func19 ok16_pref13_Covered h
theorem ok16_pref13_All : cFun Try.prog H_pref13_All Try.f8 = some (c_pref13_All F16) := by kernel_rfl
theorem a16_pref13_All {xs : List Arg} {rv : RV} {outs : List Blk} (h : (c_pref13_All F16).gives (ACall Try.prog) xs rv outs) : ACall Try.prog (F16 n_pref13_All) xs rv outs := acall_of mix16 Try.func8 ok16_pref13_All h
theorem ok16_pref11_Leaf : cFun Try.prog H_pref11_Leaf Try.f29 = some (c_pref11_Leaf F16) := by kernel_rfl
theorem a16_pref11_Leaf {xs : List Arg} {rv : RV} {outs : List Blk} (h : (c_pref11_Leaf F16).gives (ACall Try.prog) xs rv outs) : ACall Try.prog (F16 n_pref11_Leaf) xs rv outs := acall_of mix16 Try.func29 ok16_pref11_Leaf h
theorem ok16_pref09_ints : cFun Try.prog H_pref09_ints Try.f48 = some (c_pref09_ints F16) := by kernel_rfl
theorem a16_pref09_ints {xs : List Arg} {rv : RV} {outs : List Blk} (h : (c_pref09_ints F16).gives (ACall Try.prog) xs rv outs) : ACall Try.prog (F16 n_pref09_ints) xs rv outs := acall_of mix16 Try.func48 ok16_pref09_ints h
theorem ok16_pref09_Texts : cFun Try.prog H_pref09_Texts Try.f40 = some (c_pref09_Texts F16) := by kernel_rfl
theorem a16_pref09_Texts {xs : List Arg} {rv : RV} {outs : List Blk} (h : (c_pref09_Texts F16).gives (ACall Try.prog) xs rv outs) : ACall Try.prog (F16 n_pref09_Texts) xs rv outs := acall_of mix16 Try.func40 ok16_pref09_Texts h
theorem ok16_pref10_Compare : cFun Try.prog H_pref10_Compare Try.f30 = some (c_pref10_Compare F16) := by kernel_rfl
theorem a16_pref10_Compare {xs : List Arg} {rv : RV} {outs : List Blk} (h : (c_pref10_Compare F16).gives (ACall Try.prog) xs rv outs) : ACall Try.prog (F16 n_pref10_Compare) xs rv outs := acall_of mix16 Try.func30 ok16_pref10_Compare h
theorem ok16_pref13_At : cFun Try.prog H_pref13_At Try.f20 = some (c_pref13_At F16) := by kernel_rfl
theorem a16_pref13_At {xs : List Arg} {rv : RV} {outs : List Blk} (h : (c_pref13_At F16).gives (ACall Try.prog) xs rv outs) : ACall Try.prog (F16 n_pref13_At) xs rv outs := acall_of mix16 Try.func20 ok16_pref13_At h
theorem ok16_pref16_Parts : cFun Try.prog H_pref16_Parts Try.f9 = some (c_pref16_Parts F16) := by kernel_rfl
theorem a16_pref16_Parts {xs : List Arg} {rv : RV} {outs : List Blk} (h : (c_pref16_Parts F16).gives (ACall Try.prog) xs rv outs) : ACall Try.prog (F16 n_pref16_Parts) xs rv outs := acall_of mix16 Try.func9 ok16_pref16_Parts h
theorem ok16_total_Parts : cFun Try.prog H_total_Parts Try.f10 = some (c_total_Parts F16) := by kernel_rfl
theorem a16_total_Parts {xs : List Arg} {rv : RV} {outs : List Blk} (h : (c_total_Parts F16).gives (ACall Try.prog) xs rv outs) : ACall Try.prog (F16 n_total_Parts) xs rv outs := acall_of mix16 Try.func10 ok16_total_Parts h
theorem ok16_plaw16_TotalTells : cFun Try.prog H_plaw16_TotalTells Try.f3 = some (c_plaw16_TotalTells F16) := by kernel_rfl
theorem a16_plaw16_TotalTells {xs : List Arg} {rv : RV} {outs : List Blk} (h : (c_plaw16_TotalTells F16).gives (ACall Try.prog) xs rv outs) : ACall Try.prog (F16 n_plaw16_TotalTells) xs rv outs := acall_of mix16 Try.func3 ok16_plaw16_TotalTells h
end Go.AR
