import Derived.Test.YtillphnjhefioaaG26
import Derived.Test.YtillphnjhefioaaG03
import Derived.Test.YtillphnjhefioaaG02
import Derived.Test.YtillphnjhefioaaG04
import Derived.Test.YtillphnjhefioaaG10
import Derived.Test.YtillphnjhefioaaG05
import Derived.Test.YtillphnjhefioaaG09
import Derived.Test.YtillphnjhefioaaG35
import Derived.Test.YtillphnjhefioaaChecked
import Derived.KernelRfl
set_option linter.all false
/-! The seat: which function is which. Printed by program. -/
namespace Go.AR
open Go Go.Proofs
def F13 : Nat → FuncId := fun i => (get [(21, 54), (23, 0), (24, 1), (25, 2), (42, 94), (43, 95), (44, 96), (45, 97), (46, 98), (47, 99), (48, 100), (49, 101), (50, 102), (51, 103), (52, 104), (53, 105), (54, 106), (55, 107), (56, 108), (57, 109), (93, 49), (109, 5), (124, 62), (136, 32), (138, 29), (139, 53), (140, 30), (141, 36), (144, 59), (146, 33), (147, 9), (158, 55), (159, 57), (160, 56), (161, 73), (162, 77), (163, 76), (165, 72), (166, 69), (167, 87), (168, 74), (169, 75), (170, 86), (171, 83), (172, 82), (173, 92), (174, 90), (184, 80), (186, 79), (192, 89), (193, 88), (200, 16), (202, 46), (203, 43), (206, 64), (207, 45), (208, 47), (218, 60), (221, 63), (225, 78), (238, 48), (239, 50), (244, 42), (245, 44), (247, 66), (248, 40), (249, 41), (251, 51), (252, 37), (259, 65), (264, 81), (265, 61), (281, 26), (283, 27), (293, 52), (295, 58), (299, 11), (307, 31), (312, 67), (313, 68), (314, 71), (315, 70), (317, 84), (318, 85), (319, 91), (320, 93), (321, 3), (322, 8), (323, 10), (324, 12), (325, 13), (326, 14), (327, 4), (328, 15), (329, 5), (330, 17), (331, 18), (332, 19), (333, 20), (334, 21), (335, 22), (336, 24), (337, 25), (338, 23), (339, 6), (340, 28), (341, 7), (342, 34), (343, 35), (344, 38), (345, 39)] i).getD 0
abbrev C13 : CallRel := ACall Try.prog
theorem mix13 : Try.prog.follows .mixedOrders = true := by kernel_rfl
end Go.AR

namespace Go.AR
open Go Go.Proofs
theorem ok13_plaw13_put : cFun Try.prog H_plaw13_put Try.f34 = some (c_plaw13_put F13) := by kernel_rfl
theorem a13_plaw13_put {xs : List Arg} {rv : RV} {outs : List Blk} (h : (c_plaw13_put F13).gives (ACall Try.prog) xs rv outs) : ACall Try.prog (F13 n_plaw13_put) xs rv outs := acall_of mix13 Try.func34 ok13_plaw13_put h
theorem ok13_slices_BinarySearchFunc_api_Undo_api_Undo_api_Undo : cFun Try.prog H_slices_BinarySearchFunc_api_Undo_api_Undo_api_Undo Try.f72 = some (c_slices_BinarySearchFunc_api_Undo_api_Undo_api_Undo F13) := by kernel_rfl
theorem a13_slices_BinarySearchFunc_api_Undo_api_Undo_api_Undo {xs : List Arg} {rv : RV} {outs : List Blk} (h : (c_slices_BinarySearchFunc_api_Undo_api_Undo_api_Undo F13).gives (ACall Try.prog) xs rv outs) : ACall Try.prog (F13 n_slices_BinarySearchFunc_api_Undo_api_Undo_api_Undo) xs rv outs := acall_of mix13 Try.func72 ok13_slices_BinarySearchFunc_api_Undo_api_Undo_api_Undo h
theorem ok13_cmp_isNaN_int : cFun Try.prog H_cmp_isNaN_int Try.f90 = some (c_cmp_isNaN_int F13) := by kernel_rfl
theorem a13_cmp_isNaN_int {xs : List Arg} {rv : RV} {outs : List Blk} (h : (c_cmp_isNaN_int F13).gives (ACall Try.prog) xs rv outs) : ACall Try.prog (F13 n_cmp_isNaN_int) xs rv outs := acall_of mix13 Try.func90 ok13_cmp_isNaN_int h
theorem ok13_cmp_Compare_int : cFun Try.prog H_cmp_Compare_int Try.f83 = some (c_cmp_Compare_int F13) := by kernel_rfl
theorem a13_cmp_Compare_int {xs : List Arg} {rv : RV} {outs : List Blk} (h : (c_cmp_Compare_int F13).gives (ACall Try.prog) xs rv outs) : ACall Try.prog (F13 n_cmp_Compare_int) xs rv outs := acall_of mix13 Try.func83 ok13_cmp_Compare_int h
theorem ok13_cmp_Or_int : cFun Try.prog H_cmp_Or_int Try.f82 = some (c_cmp_Or_int F13) := by kernel_rfl
theorem a13_cmp_Or_int {xs : List Arg} {rv : RV} {outs : List Blk} (h : (c_cmp_Or_int F13).gives (ACall Try.prog) xs rv outs) : ACall Try.prog (F13 n_cmp_Or_int) xs rv outs := acall_of mix13 Try.func82 ok13_cmp_Or_int h
theorem ok13_dot_Compare : cFun Try.prog H_dot_Compare Try.f69 = some (c_dot_Compare F13) := by kernel_rfl
theorem a13_dot_Compare {xs : List Arg} {rv : RV} {outs : List Blk} (h : (c_dot_Compare F13).gives (ACall Try.prog) xs rv outs) : ACall Try.prog (F13 n_dot_Compare) xs rv outs := acall_of mix13 Try.func69 ok13_dot_Compare h
theorem ok13_tally_compare : cFun Try.prog H_tally_compare Try.f73 = some (c_tally_compare F13) := by kernel_rfl
theorem a13_tally_compare {xs : List Arg} {rv : RV} {outs : List Blk} (h : (c_tally_compare F13).gives (ACall Try.prog) xs rv outs) : ACall Try.prog (F13 n_tally_compare) xs rv outs := acall_of mix13 Try.func73 ok13_tally_compare h
theorem ok13_tally_at : cFun Try.prog H_tally_at Try.f55 = some (c_tally_at F13) := by kernel_rfl
theorem a13_tally_at {xs : List Arg} {rv : RV} {outs : List Blk} (h : (c_tally_at F13).gives (ACall Try.prog) xs rv outs) : ACall Try.prog (F13 n_tally_at) xs rv outs := acall_of mix13 Try.func55 ok13_tally_at h
theorem ok13_tally_Get : cFun Try.prog H_tally_Get Try.f53 = some (c_tally_Get F13) := by kernel_rfl
theorem a13_tally_Get {xs : List Arg} {rv : RV} {outs : List Blk} (h : (c_tally_Get F13).gives (ACall Try.prog) xs rv outs) : ACall Try.prog (F13 n_tally_Get) xs rv outs := acall_of mix13 Try.func53 ok13_tally_Get h
theorem ok13_tally_Seen : cFun Try.prog H_tally_Seen Try.f36 = some (c_tally_Seen F13) := by kernel_rfl
theorem a13_tally_Seen {xs : List Arg} {rv : RV} {outs : List Blk} (h : (c_tally_Seen F13).gives (ACall Try.prog) xs rv outs) : ACall Try.prog (F13 n_tally_Seen) xs rv outs := acall_of mix13 Try.func36 ok13_tally_Seen h
theorem ok13_live_covered : cFun Try.prog H_live_covered Try.f35 = some (c_live_covered F13) := by kernel_rfl
theorem a13_live_covered {xs : List Arg} {rv : RV} {outs : List Blk} (h : (c_live_covered F13).gives (ACall Try.prog) xs rv outs) : ACall Try.prog (F13 n_live_covered) xs rv outs := acall_of mix13 Try.func35 ok13_live_covered h
theorem ok13_live_All : cFun Try.prog H_live_All Try.f12 = some (c_live_All F13) := by kernel_rfl
theorem a13_live_All {xs : List Arg} {rv : RV} {outs : List Blk} (h : (c_live_All F13).gives (ACall Try.prog) xs rv outs) : ACall Try.prog (F13 n_live_All) xs rv outs := acall_of mix13 Try.func12 ok13_live_All h
theorem ok13_plaw13_awake : cFun Try.prog H_plaw13_awake Try.f10 = some (c_plaw13_awake F13) := by kernel_rfl
theorem a13_plaw13_awake {xs : List Arg} {rv : RV} {outs : List Blk} (h : (c_plaw13_awake F13).gives (ACall Try.prog) xs rv outs) : ACall Try.prog (F13 n_plaw13_awake) xs rv outs := acall_of mix13 Try.func10 ok13_plaw13_awake h
theorem ok13_pref04_ints : cFun Try.prog H_pref04_ints Try.f87 = some (c_pref04_ints F13) := by kernel_rfl
theorem a13_pref04_ints {xs : List Arg} {rv : RV} {outs : List Blk} (h : (c_pref04_ints F13).gives (ACall Try.prog) xs rv outs) : ACall Try.prog (F13 n_pref04_ints) xs rv outs := acall_of mix13 Try.func87 ok13_pref04_ints h
theorem ok13_pref04_Compare : cFun Try.prog H_pref04_Compare Try.f76 = some (c_pref04_Compare F13) := by kernel_rfl
theorem a13_pref04_Compare {xs : List Arg} {rv : RV} {outs : List Blk} (h : (c_pref04_Compare F13).gives (ACall Try.prog) xs rv outs) : ACall Try.prog (F13 n_pref04_Compare) xs rv outs := acall_of mix13 Try.func76 ok13_pref04_Compare h
theorem ok13_pref12_Rises : cFun Try.prog H_pref12_Rises Try.f58 = some (c_pref12_Rises F13) := by kernel_rfl
theorem a13_pref12_Rises {xs : List Arg} {rv : RV} {outs : List Blk} (h : (c_pref12_Rises F13).gives (ACall Try.prog) xs rv outs) : ACall Try.prog (F13 n_pref12_Rises) xs rv outs := acall_of mix13 Try.func58 ok13_pref12_Rises h
theorem ok13_pref10_Short : cFun Try.prog H_pref10_Short Try.f16 = some (c_pref10_Short F13) := by kernel_rfl
theorem a13_pref10_Short {xs : List Arg} {rv : RV} {outs : List Blk} (h : (c_pref10_Short F13).gives (ACall Try.prog) xs rv outs) : ACall Try.prog (F13 n_pref10_Short) xs rv outs := acall_of mix13 Try.func16 ok13_pref10_Short h
theorem ok13_pref11_Short : cFun Try.prog H_pref11_Short Try.f48 = some (c_pref11_Short F13) := by kernel_rfl
theorem a13_pref11_Short {xs : List Arg} {rv : RV} {outs : List Blk} (h : (c_pref11_Short F13).gives (ACall Try.prog) xs rv outs) : ACall Try.prog (F13 n_pref11_Short) xs rv outs := acall_of mix13 Try.func48 ok13_pref11_Short h
theorem ok13_pref12_Short : cFun Try.prog H_pref12_Short Try.f26 = some (c_pref12_Short F13) := by kernel_rfl
theorem a13_pref12_Short {xs : List Arg} {rv : RV} {outs : List Blk} (h : (c_pref12_Short F13).gives (ACall Try.prog) xs rv outs) : ACall Try.prog (F13 n_pref12_Short) xs rv outs := acall_of mix13 Try.func26 ok13_pref12_Short h
theorem ok13_pref04_Right : cFun Try.prog H_pref04_Right Try.f49 = some (c_pref04_Right F13) := by kernel_rfl
theorem a13_pref04_Right {xs : List Arg} {rv : RV} {outs : List Blk} (h : (c_pref04_Right F13).gives (ACall Try.prog) xs rv outs) : ACall Try.prog (F13 n_pref04_Right) xs rv outs := acall_of mix13 Try.func49 ok13_pref04_Right h
theorem ok13_pref11_Gone : cFun Try.prog H_pref11_Gone Try.f51 = some (c_pref11_Gone F13) := by kernel_rfl
theorem a13_pref11_Gone {xs : List Arg} {rv : RV} {outs : List Blk} (h : (c_pref11_Gone F13).gives (ACall Try.prog) xs rv outs) : ACall Try.prog (F13 n_pref11_Gone) xs rv outs := acall_of mix13 Try.func51 ok13_pref11_Gone h
theorem ok13_pref03_Char : cFun Try.prog H_pref03_Char Try.f89 = some (c_pref03_Char F13) := by kernel_rfl
theorem a13_pref03_Char {xs : List Arg} {rv : RV} {outs : List Blk} (h : (c_pref03_Char F13).gives (ACall Try.prog) xs rv outs) : ACall Try.prog (F13 n_pref03_Char) xs rv outs := acall_of mix13 Try.func89 ok13_pref03_Char h
theorem ok13_pref03_Runes : cFun Try.prog H_pref03_Runes Try.f80 = some (c_pref03_Runes F13) := by kernel_rfl
theorem a13_pref03_Runes {xs : List Arg} {rv : RV} {outs : List Blk} (h : (c_pref03_Runes F13).gives (ACall Try.prog) xs rv outs) : ACall Try.prog (F13 n_pref03_Runes) xs rv outs := acall_of mix13 Try.func80 ok13_pref03_Runes h
theorem ok13_pref03_may : cFun Try.prog H_pref03_may Try.f88 = some (c_pref03_may F13) := by kernel_rfl
theorem a13_pref03_may {xs : List Arg} {rv : RV} {outs : List Blk} (h : (c_pref03_may F13).gives (ACall Try.prog) xs rv outs) : ACall Try.prog (F13 n_pref03_may) xs rv outs := acall_of mix13 Try.func88 ok13_pref03_may h
theorem ok13_pref03_Right : cFun Try.prog H_pref03_Right Try.f79 = some (c_pref03_Right F13) := by kernel_rfl
theorem a13_pref03_Right {xs : List Arg} {rv : RV} {outs : List Blk} (h : (c_pref03_Right F13).gives (ACall Try.prog) xs rv outs) : ACall Try.prog (F13 n_pref03_Right) xs rv outs := acall_of mix13 Try.func79 ok13_pref03_Right h
theorem ok13_pref10_Check : cFun Try.prog H_pref10_Check Try.f64 = some (c_pref10_Check F13) := by kernel_rfl
theorem a13_pref10_Check {xs : List Arg} {rv : RV} {outs : List Blk} (h : (c_pref10_Check F13).gives (ACall Try.prog) xs rv outs) : ACall Try.prog (F13 n_pref10_Check) xs rv outs := acall_of mix13 Try.func64 ok13_pref10_Check h
theorem ok13_pref09_Right : cFun Try.prog H_pref09_Right Try.f65 = some (c_pref09_Right F13) := by kernel_rfl
theorem a13_pref09_Right {xs : List Arg} {rv : RV} {outs : List Blk} (h : (c_pref09_Right F13).gives (ACall Try.prog) xs rv outs) : ACall Try.prog (F13 n_pref09_Right) xs rv outs := acall_of mix13 Try.func65 ok13_pref09_Right h
theorem ok13_pref04_Refs : cFun Try.prog H_pref04_Refs Try.f81 = some (c_pref04_Refs F13) := by kernel_rfl
theorem a13_pref04_Refs {xs : List Arg} {rv : RV} {outs : List Blk} (h : (c_pref04_Refs F13).gives (ACall Try.prog) xs rv outs) : ACall Try.prog (F13 n_pref04_Refs) xs rv outs := acall_of mix13 Try.func81 ok13_pref04_Refs h
theorem ok13_pref11_Refs : cFun Try.prog H_pref11_Refs Try.f66 = some (c_pref11_Refs F13) := by kernel_rfl
theorem a13_pref11_Refs {xs : List Arg} {rv : RV} {outs : List Blk} (h : (c_pref11_Refs F13).gives (ACall Try.prog) xs rv outs) : ACall Try.prog (F13 n_pref11_Refs) xs rv outs := acall_of mix13 Try.func66 ok13_pref11_Refs h
theorem ok13_pref11_Check : cFun Try.prog H_pref11_Check Try.f50 = some (c_pref11_Check F13) := by kernel_rfl
theorem a13_pref11_Check {xs : List Arg} {rv : RV} {outs : List Blk} (h : (c_pref11_Check F13).gives (ACall Try.prog) xs rv outs) : ACall Try.prog (F13 n_pref11_Check) xs rv outs := acall_of mix13 Try.func50 ok13_pref11_Check h
theorem ok13_pref12_Check : cFun Try.prog H_pref12_Check Try.f27 = some (c_pref12_Check F13) := by kernel_rfl
theorem a13_pref12_Check {xs : List Arg} {rv : RV} {outs : List Blk} (h : (c_pref12_Check F13).gives (ACall Try.prog) xs rv outs) : ACall Try.prog (F13 n_pref12_Check) xs rv outs := acall_of mix13 Try.func27 ok13_pref12_Check h
theorem ok13_pref12_Good : cFun Try.prog H_pref12_Good Try.f31 = some (c_pref12_Good F13) := by kernel_rfl
theorem a13_pref12_Good {xs : List Arg} {rv : RV} {outs : List Blk} (h : (c_pref12_Good F13).gives (ACall Try.prog) xs rv outs) : ACall Try.prog (F13 n_pref12_Good) xs rv outs := acall_of mix13 Try.func31 ok13_pref12_Good h
theorem ok13_pref08_one : cFun Try.prog H_pref08_one Try.f77 = some (c_pref08_one F13) := by kernel_rfl
theorem a13_pref08_one {xs : List Arg} {rv : RV} {outs : List Blk} (h : (c_pref08_one F13).gives (ACall Try.prog) xs rv outs) : ACall Try.prog (F13 n_pref08_one) xs rv outs := acall_of mix13 Try.func77 ok13_pref08_one h
theorem ok13_pref08_Right : cFun Try.prog H_pref08_Right Try.f59 = some (c_pref08_Right F13) := by kernel_rfl
theorem a13_pref08_Right {xs : List Arg} {rv : RV} {outs : List Blk} (h : (c_pref08_Right F13).gives (ACall Try.prog) xs rv outs) : ACall Try.prog (F13 n_pref08_Right) xs rv outs := acall_of mix13 Try.func59 ok13_pref08_Right h
theorem ok13_pref08_Good : cFun Try.prog H_pref08_Good Try.f32 = some (c_pref08_Good F13) := by kernel_rfl
theorem a13_pref08_Good {xs : List Arg} {rv : RV} {outs : List Blk} (h : (c_pref08_Good F13).gives (ACall Try.prog) xs rv outs) : ACall Try.prog (F13 n_pref08_Good) xs rv outs := acall_of mix13 Try.func32 ok13_pref08_Good h
theorem ok13_plaw13_Good : cFun Try.prog H_plaw13_Good Try.f8 = some (c_plaw13_Good F13) := by kernel_rfl
theorem a13_plaw13_Good {xs : List Arg} {rv : RV} {outs : List Blk} (h : (c_plaw13_Good F13).gives (ACall Try.prog) xs rv outs) : ACall Try.prog (F13 n_plaw13_Good) xs rv outs := acall_of mix13 Try.func8 ok13_plaw13_Good h
theorem ok13_pref11_Covers : cFun Try.prog H_pref11_Covers Try.f37 = some (c_pref11_Covers F13) := by kernel_rfl
theorem a13_pref11_Covers {xs : List Arg} {rv : RV} {outs : List Blk} (h : (c_pref11_Covers F13).gives (ACall Try.prog) xs rv outs) : ACall Try.prog (F13 n_pref11_Covers) xs rv outs := acall_of mix13 Try.func37 ok13_pref11_Covers h
theorem ok13_pref08_Get : cFun Try.prog H_pref08_Get Try.f33 = some (c_pref08_Get F13) := by kernel_rfl
theorem a13_pref08_Get {xs : List Arg} {rv : RV} {outs : List Blk} (h : (c_pref08_Get F13).gives (ACall Try.prog) xs rv outs) : ACall Try.prog (F13 n_pref08_Get) xs rv outs := acall_of mix13 Try.func33 ok13_pref08_Get h
theorem ok13_pref08_Seen : cFun Try.prog H_pref08_Seen Try.f9 = some (c_pref08_Seen F13) := by kernel_rfl
theorem a13_pref08_Seen {xs : List Arg} {rv : RV} {outs : List Blk} (h : (c_pref08_Seen F13).gives (ACall Try.prog) xs rv outs) : ACall Try.prog (F13 n_pref08_Seen) xs rv outs := acall_of mix13 Try.func9 ok13_pref08_Seen h
theorem ok13_pref13_Covered : cFun Try.prog H_pref13_Covered Try.f13 = some (c_pref13_Covered F13) := by kernel_rfl
theorem a13_pref13_Covered {xs : List Arg} {rv : RV} {outs : List Blk} (h : (c_pref13_Covered F13).gives (ACall Try.prog) xs rv outs) : ACall Try.prog (F13 n_pref13_Covered) xs rv outs := acall_of mix13 Try.func13 ok13_pref13_Covered h
theorem ok13_pref13_All : cFun Try.prog H_pref13_All Try.f17 = some (c_pref13_All F13) := by kernel_rfl
theorem a13_pref13_All {xs : List Arg} {rv : RV} {outs : List Blk} (h : (c_pref13_All F13).gives (ACall Try.prog) xs rv outs) : ACall Try.prog (F13 n_pref13_All) xs rv outs := acall_of mix13 Try.func17 ok13_pref13_All h
theorem ok13_pref03_Same : cFun Try.prog H_pref03_Same Try.f62 = some (c_pref03_Same F13) := by kernel_rfl
theorem a13_pref03_Same {xs : List Arg} {rv : RV} {outs : List Blk} (h : (c_pref03_Same F13).gives (ACall Try.prog) xs rv outs) : ACall Try.prog (F13 n_pref03_Same) xs rv outs := acall_of mix13 Try.func62 ok13_pref03_Same h
theorem ok13_pref11_Same : cFun Try.prog H_pref11_Same Try.f41 = some (c_pref11_Same F13) := by kernel_rfl
theorem a13_pref11_Same {xs : List Arg} {rv : RV} {outs : List Blk} (h : (c_pref11_Same F13).gives (ACall Try.prog) xs rv outs) : ACall Try.prog (F13 n_pref11_Same) xs rv outs := acall_of mix13 Try.func41 ok13_pref11_Same h
theorem ok13_plaw13_Same : cFun Try.prog H_plaw13_Same Try.f18 = some (c_plaw13_Same F13) := by kernel_rfl
theorem a13_plaw13_Same {xs : List Arg} {rv : RV} {outs : List Blk} (h : (c_plaw13_Same F13).gives (ACall Try.prog) xs rv outs) : ACall Try.prog (F13 n_plaw13_Same) xs rv outs := acall_of mix13 Try.func18 ok13_plaw13_Same h
theorem ok13_op_Leaf : cFun Try.prog H_op_Leaf Try.f42 = some (c_op_Leaf F13) := by kernel_rfl
theorem a13_op_Leaf {xs : List Arg} {rv : RV} {outs : List Blk} (h : (c_op_Leaf F13).gives (ACall Try.prog) xs rv outs) : ACall Try.prog (F13 n_op_Leaf) xs rv outs := acall_of mix13 Try.func42 ok13_op_Leaf h
theorem ok13_slices_Equal_string_string : cFun Try.prog H_slices_Equal_string_string Try.f60 = some (c_slices_Equal_string_string F13) := by kernel_rfl
theorem a13_slices_Equal_string_string {xs : List Arg} {rv : RV} {outs : List Blk} (h : (c_slices_Equal_string_string F13).gives (ACall Try.prog) xs rv outs) : ACall Try.prog (F13 n_slices_Equal_string_string) xs rv outs := acall_of mix13 Try.func60 ok13_slices_Equal_string_string h
theorem ok13_path_Same : cFun Try.prog H_path_Same Try.f43 = some (c_path_Same F13) := by kernel_rfl
theorem a13_path_Same {xs : List Arg} {rv : RV} {outs : List Blk} (h : (c_path_Same F13).gives (ACall Try.prog) xs rv outs) : ACall Try.prog (F13 n_path_Same) xs rv outs := acall_of mix13 Try.func43 ok13_path_Same h
theorem ok13_live_At : cFun Try.prog H_live_At Try.f19 = some (c_live_At F13) := by kernel_rfl
theorem a13_live_At {xs : List Arg} {rv : RV} {outs : List Blk} (h : (c_live_At F13).gives (ACall Try.prog) xs rv outs) : ACall Try.prog (F13 n_live_At) xs rv outs := acall_of mix13 Try.func19 ok13_live_At h
theorem ok13_pref11_Leaf : cFun Try.prog H_pref11_Leaf Try.f44 = some (c_pref11_Leaf F13) := by kernel_rfl
theorem a13_pref11_Leaf {xs : List Arg} {rv : RV} {outs : List Blk} (h : (c_pref11_Leaf F13).gives (ACall Try.prog) xs rv outs) : ACall Try.prog (F13 n_pref11_Leaf) xs rv outs := acall_of mix13 Try.func44 ok13_pref11_Leaf h
theorem ok13_pref09_ints : cFun Try.prog H_pref09_ints Try.f78 = some (c_pref09_ints F13) := by kernel_rfl
theorem a13_pref09_ints {xs : List Arg} {rv : RV} {outs : List Blk} (h : (c_pref09_ints F13).gives (ACall Try.prog) xs rv outs) : ACall Try.prog (F13 n_pref09_ints) xs rv outs := acall_of mix13 Try.func78 ok13_pref09_ints h
theorem ok13_pref09_Texts : cFun Try.prog H_pref09_Texts Try.f63 = some (c_pref09_Texts F13) := by kernel_rfl
theorem a13_pref09_Texts {xs : List Arg} {rv : RV} {outs : List Blk} (h : (c_pref09_Texts F13).gives (ACall Try.prog) xs rv outs) : ACall Try.prog (F13 n_pref09_Texts) xs rv outs := acall_of mix13 Try.func63 ok13_pref09_Texts h
theorem ok13_pref10_Compare : cFun Try.prog H_pref10_Compare Try.f45 = some (c_pref10_Compare F13) := by kernel_rfl
theorem a13_pref10_Compare {xs : List Arg} {rv : RV} {outs : List Blk} (h : (c_pref10_Compare F13).gives (ACall Try.prog) xs rv outs) : ACall Try.prog (F13 n_pref10_Compare) xs rv outs := acall_of mix13 Try.func45 ok13_pref10_Compare h
theorem ok13_pref13_At : cFun Try.prog H_pref13_At Try.f20 = some (c_pref13_At F13) := by kernel_rfl
theorem a13_pref13_At {xs : List Arg} {rv : RV} {outs : List Blk} (h : (c_pref13_At F13).gives (ACall Try.prog) xs rv outs) : ACall Try.prog (F13 n_pref13_At) xs rv outs := acall_of mix13 Try.func20 ok13_pref13_At h
theorem ok13_path_Under : cFun Try.prog H_path_Under Try.f46 = some (c_path_Under F13) := by kernel_rfl
theorem a13_path_Under {xs : List Arg} {rv : RV} {outs : List Blk} (h : (c_path_Under F13).gives (ACall Try.prog) xs rv outs) : ACall Try.prog (F13 n_path_Under) xs rv outs := acall_of mix13 Try.func46 ok13_path_Under h
theorem ok13_live_Under : cFun Try.prog H_live_Under Try.f21 = some (c_live_Under F13) := by kernel_rfl
theorem a13_live_Under {xs : List Arg} {rv : RV} {outs : List Blk} (h : (c_live_Under F13).gives (ACall Try.prog) xs rv outs) : ACall Try.prog (F13 n_live_Under) xs rv outs := acall_of mix13 Try.func21 ok13_live_Under h
theorem ok13_pref10_Under : cFun Try.prog H_pref10_Under Try.f47 = some (c_pref10_Under F13) := by kernel_rfl
theorem a13_pref10_Under {xs : List Arg} {rv : RV} {outs : List Blk} (h : (c_pref10_Under F13).gives (ACall Try.prog) xs rv outs) : ACall Try.prog (F13 n_pref10_Under) xs rv outs := acall_of mix13 Try.func47 ok13_pref10_Under h
theorem ok13_pref13_Under : cFun Try.prog H_pref13_Under Try.f22 = some (c_pref13_Under F13) := by kernel_rfl
theorem a13_pref13_Under {xs : List Arg} {rv : RV} {outs : List Blk} (h : (c_pref13_Under F13).gives (ACall Try.prog) xs rv outs) : ACall Try.prog (F13 n_pref13_Under) xs rv outs := acall_of mix13 Try.func22 ok13_pref13_Under h
theorem ok13_live_Refs : cFun Try.prog H_live_Refs Try.f24 = some (c_live_Refs F13) := by kernel_rfl
theorem a13_live_Refs {xs : List Arg} {rv : RV} {outs : List Blk} (h : (c_live_Refs F13).gives (ACall Try.prog) xs rv outs) : ACall Try.prog (F13 n_live_Refs) xs rv outs := acall_of mix13 Try.func24 ok13_live_Refs h
theorem ok13_pref13_Refs : cFun Try.prog H_pref13_Refs Try.f25 = some (c_pref13_Refs F13) := by kernel_rfl
theorem a13_pref13_Refs {xs : List Arg} {rv : RV} {outs : List Blk} (h : (c_pref13_Refs F13).gives (ACall Try.prog) xs rv outs) : ACall Try.prog (F13 n_pref13_Refs) xs rv outs := acall_of mix13 Try.func25 ok13_pref13_Refs h
theorem ok13_pref13_SameRefs : cFun Try.prog H_pref13_SameRefs Try.f23 = some (c_pref13_SameRefs F13) := by kernel_rfl
theorem a13_pref13_SameRefs {xs : List Arg} {rv : RV} {outs : List Blk} (h : (c_pref13_SameRefs F13).gives (ACall Try.prog) xs rv outs) : ACall Try.prog (F13 n_pref13_SameRefs) xs rv outs := acall_of mix13 Try.func23 ok13_pref13_SameRefs h
theorem ok13_slices_EqualFunc_live_Item_live_Item_live_Item_live_Item : cFun Try.prog H_slices_EqualFunc_live_Item_live_Item_live_Item_live_Item Try.f38 = some (c_slices_EqualFunc_live_Item_live_Item_live_Item_live_Item F13) := by kernel_rfl
theorem a13_slices_EqualFunc_live_Item_live_Item_live_Item_live_Item {xs : List Arg} {rv : RV} {outs : List Blk} (h : (c_slices_EqualFunc_live_Item_live_Item_live_Item_live_Item F13).gives (ACall Try.prog) xs rv outs) : ACall Try.prog (F13 n_slices_EqualFunc_live_Item_live_Item_live_Item_live_Item) xs rv outs := acall_of mix13 Try.func38 ok13_slices_EqualFunc_live_Item_live_Item_live_Item_live_Item h
theorem ok13_slices_Equal_api_Ref_api_Ref : cFun Try.prog H_slices_Equal_api_Ref_api_Ref Try.f61 = some (c_slices_Equal_api_Ref_api_Ref F13) := by kernel_rfl
theorem a13_slices_Equal_api_Ref_api_Ref {xs : List Arg} {rv : RV} {outs : List Blk} (h : (c_slices_Equal_api_Ref_api_Ref F13).gives (ACall Try.prog) xs rv outs) : ACall Try.prog (F13 n_slices_Equal_api_Ref_api_Ref) xs rv outs := acall_of mix13 Try.func61 ok13_slices_Equal_api_Ref_api_Ref h
theorem ok13_op_Same : cFun Try.prog H_op_Same Try.f40 = some (c_op_Same F13) := by kernel_rfl
theorem a13_op_Same {xs : List Arg} {rv : RV} {outs : List Blk} (h : (c_op_Same F13).gives (ACall Try.prog) xs rv outs) : ACall Try.prog (F13 n_op_Same) xs rv outs := acall_of mix13 Try.func40 ok13_op_Same h
theorem ok13_live_Same_1 : cFun Try.prog H_live_Same_1 Try.f39 = some (c_live_Same_1 F13) := by kernel_rfl
theorem a13_live_Same_1 {xs : List Arg} {rv : RV} {outs : List Blk} (h : (c_live_Same_1 F13).gives (ACall Try.prog) xs rv outs) : ACall Try.prog (F13 n_live_Same_1) xs rv outs := acall_of mix13 Try.func39 ok13_live_Same_1 h
theorem ok13_live_Same : cFun Try.prog H_live_Same Try.f15 = some (c_live_Same F13) := by kernel_rfl
theorem a13_live_Same {xs : List Arg} {rv : RV} {outs : List Blk} (h : (c_live_Same F13).gives (ACall Try.prog) xs rv outs) : ACall Try.prog (F13 n_live_Same) xs rv outs := acall_of mix13 Try.func15 ok13_live_Same h
theorem ok13_plaw13_LiveTells : cFun Try.prog H_plaw13_LiveTells Try.f5 = some (c_plaw13_LiveTells F13) := by kernel_rfl
theorem a13_plaw13_LiveTells {xs : List Arg} {rv : RV} {outs : List Blk} (h : (c_plaw13_LiveTells F13).gives (ACall Try.prog) xs rv outs) : ACall Try.prog (F13 n_plaw13_LiveTells) xs rv outs := acall_of mix13 Try.func5 ok13_plaw13_LiveTells h
theorem ok13_plaw13_LiveUndone : cFun Try.prog H_plaw13_LiveUndone Try.f4 = some (c_plaw13_LiveUndone F13) := by kernel_rfl
theorem a13_plaw13_LiveUndone {xs : List Arg} {rv : RV} {outs : List Blk} (h : (c_plaw13_LiveUndone F13).gives (ACall Try.prog) xs rv outs) : ACall Try.prog (F13 n_plaw13_LiveUndone) xs rv outs := acall_of mix13 Try.func4 ok13_plaw13_LiveUndone h
theorem ok13_dot_Right : cFun Try.prog H_dot_Right Try.f54 = some (c_dot_Right F13) := by kernel_rfl
theorem a13_dot_Right {xs : List Arg} {rv : RV} {outs : List Blk} (h : (c_dot_Right F13).gives (ACall Try.prog) xs rv outs) : ACall Try.prog (F13 n_dot_Right) xs rv outs := acall_of mix13 Try.func54 ok13_dot_Right h
theorem ok13_tally_Raise : cFun Try.prog H_tally_Raise Try.f29 = some (c_tally_Raise F13) := by kernel_rfl
theorem a13_tally_Raise {xs : List Arg} {rv : RV} {outs : List Blk} (h : (c_tally_Raise F13).gives (ACall Try.prog) xs rv outs) : ACall Try.prog (F13 n_tally_Raise) xs rv outs := acall_of mix13 Try.func29 ok13_tally_Raise h
theorem ok13_slices_Clone_api_Undo_api_Undo : cFun Try.prog H_slices_Clone_api_Undo_api_Undo Try.f57 = some (c_slices_Clone_api_Undo_api_Undo F13) := by kernel_rfl
theorem a13_slices_Clone_api_Undo_api_Undo {xs : List Arg} {rv : RV} {outs : List Blk} (h : (c_slices_Clone_api_Undo_api_Undo F13).gives (ACall Try.prog) xs rv outs) : ACall Try.prog (F13 n_slices_Clone_api_Undo_api_Undo) xs rv outs := acall_of mix13 Try.func57 ok13_slices_Clone_api_Undo_api_Undo h
theorem ok13_tally_Put : cFun Try.prog H_tally_Put Try.f30 = some (c_tally_Put F13) := by kernel_rfl
theorem a13_tally_Put {xs : List Arg} {rv : RV} {outs : List Blk} (h : (c_tally_Put F13).gives (ACall Try.prog) xs rv outs) : ACall Try.prog (F13 n_tally_Put) xs rv outs := acall_of mix13 Try.func30 ok13_tally_Put h
theorem ok13_plaw13_LiveTwice : cFun Try.prog H_plaw13_LiveTwice Try.f7 = some (c_plaw13_LiveTwice F13) := by kernel_rfl
theorem a13_plaw13_LiveTwice {xs : List Arg} {rv : RV} {outs : List Blk} (h : (c_plaw13_LiveTwice F13).gives (ACall Try.prog) xs rv outs) : ACall Try.prog (F13 n_plaw13_LiveTwice) xs rv outs := acall_of mix13 Try.func7 ok13_plaw13_LiveTwice h
theorem ok13_pref12_Find : cFun Try.prog H_pref12_Find Try.f11 = some (c_pref12_Find F13) := by kernel_rfl
theorem a13_pref12_Find {xs : List Arg} {rv : RV} {outs : List Blk} (h : (c_pref12_Find F13).gives (ACall Try.prog) xs rv outs) : ACall Try.prog (F13 n_pref12_Find) xs rv outs := acall_of mix13 Try.func11 ok13_pref12_Find h
theorem ok13_plaw13_has : cFun Try.prog H_plaw13_has Try.f14 = some (c_plaw13_has F13) := by kernel_rfl
theorem a13_plaw13_has {xs : List Arg} {rv : RV} {outs : List Blk} (h : (c_plaw13_has F13).gives (ACall Try.prog) xs rv outs) : ACall Try.prog (F13 n_plaw13_has) xs rv outs := acall_of mix13 Try.func14 ok13_plaw13_has h
theorem ok13_plaw13_LiveAgain : cFun Try.prog H_plaw13_LiveAgain Try.f3 = some (c_plaw13_LiveAgain F13) := by kernel_rfl
theorem a13_plaw13_LiveAgain {xs : List Arg} {rv : RV} {outs : List Blk} (h : (c_plaw13_LiveAgain F13).gives (ACall Try.prog) xs rv outs) : ACall Try.prog (F13 n_plaw13_LiveAgain) xs rv outs := acall_of mix13 Try.func3 ok13_plaw13_LiveAgain h
theorem ok13_slices_BinarySearchFunc_api_Txn_api_Txn_api_Dot : cFun Try.prog H_slices_BinarySearchFunc_api_Txn_api_Txn_api_Dot Try.f67 = some (c_slices_BinarySearchFunc_api_Txn_api_Txn_api_Dot F13) := by kernel_rfl
theorem a13_slices_BinarySearchFunc_api_Txn_api_Txn_api_Dot {xs : List Arg} {rv : RV} {outs : List Blk} (h : (c_slices_BinarySearchFunc_api_Txn_api_Txn_api_Dot F13).gives (ACall Try.prog) xs rv outs) : ACall Try.prog (F13 n_slices_BinarySearchFunc_api_Txn_api_Txn_api_Dot) xs rv outs := acall_of mix13 Try.func67 ok13_slices_BinarySearchFunc_api_Txn_api_Txn_api_Dot h
theorem ok13_txn_Put_1 : cFun Try.prog H_txn_Put_1 Try.f68 = some (c_txn_Put_1 F13) := by kernel_rfl
theorem a13_txn_Put_1 {xs : List Arg} {rv : RV} {outs : List Blk} (h : (c_txn_Put_1 F13).gives (ACall Try.prog) xs rv outs) : ACall Try.prog (F13 n_txn_Put_1) xs rv outs := acall_of mix13 Try.func68 ok13_txn_Put_1 h
theorem ok13_slices_Clone_api_Txn_api_Txn : cFun Try.prog H_slices_Clone_api_Txn_api_Txn Try.f71 = some (c_slices_Clone_api_Txn_api_Txn F13) := by kernel_rfl
theorem a13_slices_Clone_api_Txn_api_Txn {xs : List Arg} {rv : RV} {outs : List Blk} (h : (c_slices_Clone_api_Txn_api_Txn F13).gives (ACall Try.prog) xs rv outs) : ACall Try.prog (F13 n_slices_Clone_api_Txn_api_Txn) xs rv outs := acall_of mix13 Try.func71 ok13_slices_Clone_api_Txn_api_Txn h
theorem ok13_txn_Put : cFun Try.prog H_txn_Put Try.f52 = some (c_txn_Put F13) := by kernel_rfl
theorem a13_txn_Put {xs : List Arg} {rv : RV} {outs : List Blk} (h : (c_txn_Put F13).gives (ACall Try.prog) xs rv outs) : ACall Try.prog (F13 n_txn_Put) xs rv outs := acall_of mix13 Try.func52 ok13_txn_Put h
theorem ok13_live_With : cFun Try.prog H_live_With Try.f28 = some (c_live_With F13) := by kernel_rfl
theorem a13_live_With {xs : List Arg} {rv : RV} {outs : List Blk} (h : (c_live_With F13).gives (ACall Try.prog) xs rv outs) : ACall Try.prog (F13 n_live_With) xs rv outs := acall_of mix13 Try.func28 ok13_live_With h
theorem ok13_plaw13_LiveWith : cFun Try.prog H_plaw13_LiveWith Try.f6 = some (c_plaw13_LiveWith F13) := by kernel_rfl
theorem a13_plaw13_LiveWith {xs : List Arg} {rv : RV} {outs : List Blk} (h : (c_plaw13_LiveWith F13).gives (ACall Try.prog) xs rv outs) : ACall Try.prog (F13 n_plaw13_LiveWith) xs rv outs := acall_of mix13 Try.func6 ok13_plaw13_LiveWith h
end Go.AR
