import Derived.Test.YtphggkbbjnpaeaaG26
import Derived.Test.YtphggkbbjnpaeaaG03
import Derived.Test.YtphggkbbjnpaeaaG02
import Derived.Test.YtphggkbbjnpaeaaG05
import Derived.Test.YtphggkbbjnpaeaaG04
import Derived.Test.YtphggkbbjnpaeaaG09
import Derived.Test.YtphggkbbjnpaeaaG34
import Derived.Test.YtphggkbbjnpaeaaG37
import Derived.Test.YtphggkbbjnpaeaaChecked
import Derived.KernelRfl
set_option linter.all false
/-! The seat: which function is which. Printed by program. -/
namespace Go.AR
open Go Go.Proofs
def F15 : Nat → FuncId := fun i => (get [(23, 0), (24, 1), (25, 2), (42, 73), (43, 74), (44, 75), (45, 76), (46, 77), (47, 78), (48, 79), (49, 80), (50, 81), (51, 82), (52, 83), (53, 84), (54, 85), (55, 86), (56, 87), (57, 88), (93, 48), (109, 5), (136, 17), (139, 33), (141, 20), (144, 32), (146, 34), (147, 21), (158, 52), (161, 64), (162, 51), (163, 46), (165, 63), (166, 70), (167, 59), (171, 41), (172, 40), (174, 55), (184, 68), (186, 67), (192, 72), (193, 71), (200, 5), (203, 39), (206, 60), (207, 37), (218, 54), (221, 53), (225, 58), (238, 47), (239, 49), (244, 38), (245, 36), (247, 62), (251, 50), (252, 35), (259, 61), (264, 69), (281, 30), (283, 31), (295, 29), (307, 16), (322, 4), (324, 7), (325, 22), (330, 8), (332, 24), (333, 23), (338, 13), (343, 19), (353, 3), (354, 6), (355, 9), (356, 11), (357, 12), (358, 10), (359, 14), (360, 15), (361, 18), (362, 25), (363, 26), (364, 27), (365, 28), (366, 42), (367, 45), (368, 56), (369, 43), (370, 44), (371, 57), (372, 65), (373, 66)] i).getD 0
abbrev C15 : CallRel := ACall Try.prog
theorem mix15 : Try.prog.follows .mixedOrders = true := by kernel_rfl
end Go.AR

namespace Go.AR
open Go Go.Proofs
theorem ok15_plaw15_act : cFun Try.prog H_plaw15_act Try.f18 = some (c_plaw15_act F15) := by kernel_rfl
theorem a15_plaw15_act {xs : List Arg} {rv : RV} {outs : List Blk} (h : (c_plaw15_act F15).gives (ACall Try.prog) xs rv outs) : ACall Try.prog (F15 n_plaw15_act) xs rv outs := acall_of mix15 Try.func18 ok15_plaw15_act h
theorem ok15_slices_BinarySearchFunc_api_Undo_api_Undo_api_Undo : cFun Try.prog H_slices_BinarySearchFunc_api_Undo_api_Undo_api_Undo Try.f63 = some (c_slices_BinarySearchFunc_api_Undo_api_Undo_api_Undo F15) := by kernel_rfl
theorem a15_slices_BinarySearchFunc_api_Undo_api_Undo_api_Undo {xs : List Arg} {rv : RV} {outs : List Blk} (h : (c_slices_BinarySearchFunc_api_Undo_api_Undo_api_Undo F15).gives (ACall Try.prog) xs rv outs) : ACall Try.prog (F15 n_slices_BinarySearchFunc_api_Undo_api_Undo_api_Undo) xs rv outs := acall_of mix15 Try.func63 ok15_slices_BinarySearchFunc_api_Undo_api_Undo_api_Undo h
theorem ok15_cmp_isNaN_int : cFun Try.prog H_cmp_isNaN_int Try.f55 = some (c_cmp_isNaN_int F15) := by kernel_rfl
theorem a15_cmp_isNaN_int {xs : List Arg} {rv : RV} {outs : List Blk} (h : (c_cmp_isNaN_int F15).gives (ACall Try.prog) xs rv outs) : ACall Try.prog (F15 n_cmp_isNaN_int) xs rv outs := acall_of mix15 Try.func55 ok15_cmp_isNaN_int h
theorem ok15_cmp_Compare_int : cFun Try.prog H_cmp_Compare_int Try.f41 = some (c_cmp_Compare_int F15) := by kernel_rfl
theorem a15_cmp_Compare_int {xs : List Arg} {rv : RV} {outs : List Blk} (h : (c_cmp_Compare_int F15).gives (ACall Try.prog) xs rv outs) : ACall Try.prog (F15 n_cmp_Compare_int) xs rv outs := acall_of mix15 Try.func41 ok15_cmp_Compare_int h
theorem ok15_cmp_Or_int : cFun Try.prog H_cmp_Or_int Try.f40 = some (c_cmp_Or_int F15) := by kernel_rfl
theorem a15_cmp_Or_int {xs : List Arg} {rv : RV} {outs : List Blk} (h : (c_cmp_Or_int F15).gives (ACall Try.prog) xs rv outs) : ACall Try.prog (F15 n_cmp_Or_int) xs rv outs := acall_of mix15 Try.func40 ok15_cmp_Or_int h
theorem ok15_dot_Compare : cFun Try.prog H_dot_Compare Try.f70 = some (c_dot_Compare F15) := by kernel_rfl
theorem a15_dot_Compare {xs : List Arg} {rv : RV} {outs : List Blk} (h : (c_dot_Compare F15).gives (ACall Try.prog) xs rv outs) : ACall Try.prog (F15 n_dot_Compare) xs rv outs := acall_of mix15 Try.func70 ok15_dot_Compare h
theorem ok15_tally_compare : cFun Try.prog H_tally_compare Try.f64 = some (c_tally_compare F15) := by kernel_rfl
theorem a15_tally_compare {xs : List Arg} {rv : RV} {outs : List Blk} (h : (c_tally_compare F15).gives (ACall Try.prog) xs rv outs) : ACall Try.prog (F15 n_tally_compare) xs rv outs := acall_of mix15 Try.func64 ok15_tally_compare h
theorem ok15_tally_at : cFun Try.prog H_tally_at Try.f52 = some (c_tally_at F15) := by kernel_rfl
theorem a15_tally_at {xs : List Arg} {rv : RV} {outs : List Blk} (h : (c_tally_at F15).gives (ACall Try.prog) xs rv outs) : ACall Try.prog (F15 n_tally_at) xs rv outs := acall_of mix15 Try.func52 ok15_tally_at h
theorem ok15_tally_Get : cFun Try.prog H_tally_Get Try.f33 = some (c_tally_Get F15) := by kernel_rfl
theorem a15_tally_Get {xs : List Arg} {rv : RV} {outs : List Blk} (h : (c_tally_Get F15).gives (ACall Try.prog) xs rv outs) : ACall Try.prog (F15 n_tally_Get) xs rv outs := acall_of mix15 Try.func33 ok15_tally_Get h
theorem ok15_tally_Seen : cFun Try.prog H_tally_Seen Try.f20 = some (c_tally_Seen F15) := by kernel_rfl
theorem a15_tally_Seen {xs : List Arg} {rv : RV} {outs : List Blk} (h : (c_tally_Seen F15).gives (ACall Try.prog) xs rv outs) : ACall Try.prog (F15 n_tally_Seen) xs rv outs := acall_of mix15 Try.func20 ok15_tally_Seen h
theorem ok15_live_covered : cFun Try.prog H_live_covered Try.f19 = some (c_live_covered F15) := by kernel_rfl
theorem a15_live_covered {xs : List Arg} {rv : RV} {outs : List Blk} (h : (c_live_covered F15).gives (ACall Try.prog) xs rv outs) : ACall Try.prog (F15 n_live_covered) xs rv outs := acall_of mix15 Try.func19 ok15_live_covered h
theorem ok15_live_All : cFun Try.prog H_live_All Try.f7 = some (c_live_All F15) := by kernel_rfl
theorem a15_live_All {xs : List Arg} {rv : RV} {outs : List Blk} (h : (c_live_All F15).gives (ACall Try.prog) xs rv outs) : ACall Try.prog (F15 n_live_All) xs rv outs := acall_of mix15 Try.func7 ok15_live_All h
theorem ok15_op_Leaf : cFun Try.prog H_op_Leaf Try.f38 = some (c_op_Leaf F15) := by kernel_rfl
theorem a15_op_Leaf {xs : List Arg} {rv : RV} {outs : List Blk} (h : (c_op_Leaf F15).gives (ACall Try.prog) xs rv outs) : ACall Try.prog (F15 n_op_Leaf) xs rv outs := acall_of mix15 Try.func38 ok15_op_Leaf h
theorem ok15_slices_Equal_string_string : cFun Try.prog H_slices_Equal_string_string Try.f54 = some (c_slices_Equal_string_string F15) := by kernel_rfl
theorem a15_slices_Equal_string_string {xs : List Arg} {rv : RV} {outs : List Blk} (h : (c_slices_Equal_string_string F15).gives (ACall Try.prog) xs rv outs) : ACall Try.prog (F15 n_slices_Equal_string_string) xs rv outs := acall_of mix15 Try.func54 ok15_slices_Equal_string_string h
theorem ok15_path_Same : cFun Try.prog H_path_Same Try.f39 = some (c_path_Same F15) := by kernel_rfl
theorem a15_path_Same {xs : List Arg} {rv : RV} {outs : List Blk} (h : (c_path_Same F15).gives (ACall Try.prog) xs rv outs) : ACall Try.prog (F15 n_path_Same) xs rv outs := acall_of mix15 Try.func39 ok15_path_Same h
theorem ok15_live_At : cFun Try.prog H_live_At Try.f24 = some (c_live_At F15) := by kernel_rfl
theorem a15_live_At {xs : List Arg} {rv : RV} {outs : List Blk} (h : (c_live_At F15).gives (ACall Try.prog) xs rv outs) : ACall Try.prog (F15 n_live_At) xs rv outs := acall_of mix15 Try.func24 ok15_live_At h
theorem ok15_bag_Adds : cFun Try.prog H_bag_Adds Try.f14 = some (c_bag_Adds F15) := by kernel_rfl
theorem a15_bag_Adds {xs : List Arg} {rv : RV} {outs : List Blk} (h : (c_bag_Adds F15).gives (ACall Try.prog) xs rv outs) : ACall Try.prog (F15 n_bag_Adds) xs rv outs := acall_of mix15 Try.func14 ok15_bag_Adds h
theorem ok15_bag_Has : cFun Try.prog H_bag_Has Try.f15 = some (c_bag_Has F15) := by kernel_rfl
theorem a15_bag_Has {xs : List Arg} {rv : RV} {outs : List Blk} (h : (c_bag_Has F15).gives (ACall Try.prog) xs rv outs) : ACall Try.prog (F15 n_bag_Has) xs rv outs := acall_of mix15 Try.func15 ok15_bag_Has h
theorem ok15_plaw15_awake : cFun Try.prog H_plaw15_awake Try.f6 = some (c_plaw15_awake F15) := by kernel_rfl
theorem a15_plaw15_awake {xs : List Arg} {rv : RV} {outs : List Blk} (h : (c_plaw15_awake F15).gives (ACall Try.prog) xs rv outs) : ACall Try.prog (F15 n_plaw15_awake) xs rv outs := acall_of mix15 Try.func6 ok15_plaw15_awake h
theorem ok15_pref04_ints : cFun Try.prog H_pref04_ints Try.f59 = some (c_pref04_ints F15) := by kernel_rfl
theorem a15_pref04_ints {xs : List Arg} {rv : RV} {outs : List Blk} (h : (c_pref04_ints F15).gives (ACall Try.prog) xs rv outs) : ACall Try.prog (F15 n_pref04_ints) xs rv outs := acall_of mix15 Try.func59 ok15_pref04_ints h
theorem ok15_pref04_Compare : cFun Try.prog H_pref04_Compare Try.f46 = some (c_pref04_Compare F15) := by kernel_rfl
theorem a15_pref04_Compare {xs : List Arg} {rv : RV} {outs : List Blk} (h : (c_pref04_Compare F15).gives (ACall Try.prog) xs rv outs) : ACall Try.prog (F15 n_pref04_Compare) xs rv outs := acall_of mix15 Try.func46 ok15_pref04_Compare h
theorem ok15_pref12_Rises : cFun Try.prog H_pref12_Rises Try.f29 = some (c_pref12_Rises F15) := by kernel_rfl
theorem a15_pref12_Rises {xs : List Arg} {rv : RV} {outs : List Blk} (h : (c_pref12_Rises F15).gives (ACall Try.prog) xs rv outs) : ACall Try.prog (F15 n_pref12_Rises) xs rv outs := acall_of mix15 Try.func29 ok15_pref12_Rises h
theorem ok15_pref10_Short : cFun Try.prog H_pref10_Short Try.f5 = some (c_pref10_Short F15) := by kernel_rfl
theorem a15_pref10_Short {xs : List Arg} {rv : RV} {outs : List Blk} (h : (c_pref10_Short F15).gives (ACall Try.prog) xs rv outs) : ACall Try.prog (F15 n_pref10_Short) xs rv outs := acall_of mix15 Try.func5 ok15_pref10_Short h
theorem ok15_pref11_Short : cFun Try.prog H_pref11_Short Try.f47 = some (c_pref11_Short F15) := by kernel_rfl
theorem a15_pref11_Short {xs : List Arg} {rv : RV} {outs : List Blk} (h : (c_pref11_Short F15).gives (ACall Try.prog) xs rv outs) : ACall Try.prog (F15 n_pref11_Short) xs rv outs := acall_of mix15 Try.func47 ok15_pref11_Short h
theorem ok15_pref12_Short : cFun Try.prog H_pref12_Short Try.f30 = some (c_pref12_Short F15) := by kernel_rfl
theorem a15_pref12_Short {xs : List Arg} {rv : RV} {outs : List Blk} (h : (c_pref12_Short F15).gives (ACall Try.prog) xs rv outs) : ACall Try.prog (F15 n_pref12_Short) xs rv outs := acall_of mix15 Try.func30 ok15_pref12_Short h
theorem ok15_pref04_Right : cFun Try.prog H_pref04_Right Try.f48 = some (c_pref04_Right F15) := by kernel_rfl
theorem a15_pref04_Right {xs : List Arg} {rv : RV} {outs : List Blk} (h : (c_pref04_Right F15).gives (ACall Try.prog) xs rv outs) : ACall Try.prog (F15 n_pref04_Right) xs rv outs := acall_of mix15 Try.func48 ok15_pref04_Right h
theorem ok15_pref11_Gone : cFun Try.prog H_pref11_Gone Try.f50 = some (c_pref11_Gone F15) := by kernel_rfl
theorem a15_pref11_Gone {xs : List Arg} {rv : RV} {outs : List Blk} (h : (c_pref11_Gone F15).gives (ACall Try.prog) xs rv outs) : ACall Try.prog (F15 n_pref11_Gone) xs rv outs := acall_of mix15 Try.func50 ok15_pref11_Gone h
theorem ok15_pref03_Char : cFun Try.prog H_pref03_Char Try.f72 = some (c_pref03_Char F15) := by kernel_rfl
theorem a15_pref03_Char {xs : List Arg} {rv : RV} {outs : List Blk} (h : (c_pref03_Char F15).gives (ACall Try.prog) xs rv outs) : ACall Try.prog (F15 n_pref03_Char) xs rv outs := acall_of mix15 Try.func72 ok15_pref03_Char h
theorem ok15_pref03_Runes : cFun Try.prog H_pref03_Runes Try.f68 = some (c_pref03_Runes F15) := by kernel_rfl
theorem a15_pref03_Runes {xs : List Arg} {rv : RV} {outs : List Blk} (h : (c_pref03_Runes F15).gives (ACall Try.prog) xs rv outs) : ACall Try.prog (F15 n_pref03_Runes) xs rv outs := acall_of mix15 Try.func68 ok15_pref03_Runes h
theorem ok15_pref03_may : cFun Try.prog H_pref03_may Try.f71 = some (c_pref03_may F15) := by kernel_rfl
theorem a15_pref03_may {xs : List Arg} {rv : RV} {outs : List Blk} (h : (c_pref03_may F15).gives (ACall Try.prog) xs rv outs) : ACall Try.prog (F15 n_pref03_may) xs rv outs := acall_of mix15 Try.func71 ok15_pref03_may h
theorem ok15_pref03_Right : cFun Try.prog H_pref03_Right Try.f67 = some (c_pref03_Right F15) := by kernel_rfl
theorem a15_pref03_Right {xs : List Arg} {rv : RV} {outs : List Blk} (h : (c_pref03_Right F15).gives (ACall Try.prog) xs rv outs) : ACall Try.prog (F15 n_pref03_Right) xs rv outs := acall_of mix15 Try.func67 ok15_pref03_Right h
theorem ok15_pref10_Check : cFun Try.prog H_pref10_Check Try.f60 = some (c_pref10_Check F15) := by kernel_rfl
theorem a15_pref10_Check {xs : List Arg} {rv : RV} {outs : List Blk} (h : (c_pref10_Check F15).gives (ACall Try.prog) xs rv outs) : ACall Try.prog (F15 n_pref10_Check) xs rv outs := acall_of mix15 Try.func60 ok15_pref10_Check h
theorem ok15_pref09_Right : cFun Try.prog H_pref09_Right Try.f61 = some (c_pref09_Right F15) := by kernel_rfl
theorem a15_pref09_Right {xs : List Arg} {rv : RV} {outs : List Blk} (h : (c_pref09_Right F15).gives (ACall Try.prog) xs rv outs) : ACall Try.prog (F15 n_pref09_Right) xs rv outs := acall_of mix15 Try.func61 ok15_pref09_Right h
theorem ok15_pref04_Refs : cFun Try.prog H_pref04_Refs Try.f69 = some (c_pref04_Refs F15) := by kernel_rfl
theorem a15_pref04_Refs {xs : List Arg} {rv : RV} {outs : List Blk} (h : (c_pref04_Refs F15).gives (ACall Try.prog) xs rv outs) : ACall Try.prog (F15 n_pref04_Refs) xs rv outs := acall_of mix15 Try.func69 ok15_pref04_Refs h
theorem ok15_pref11_Refs : cFun Try.prog H_pref11_Refs Try.f62 = some (c_pref11_Refs F15) := by kernel_rfl
theorem a15_pref11_Refs {xs : List Arg} {rv : RV} {outs : List Blk} (h : (c_pref11_Refs F15).gives (ACall Try.prog) xs rv outs) : ACall Try.prog (F15 n_pref11_Refs) xs rv outs := acall_of mix15 Try.func62 ok15_pref11_Refs h
theorem ok15_pref11_Check : cFun Try.prog H_pref11_Check Try.f49 = some (c_pref11_Check F15) := by kernel_rfl
theorem a15_pref11_Check {xs : List Arg} {rv : RV} {outs : List Blk} (h : (c_pref11_Check F15).gives (ACall Try.prog) xs rv outs) : ACall Try.prog (F15 n_pref11_Check) xs rv outs := acall_of mix15 Try.func49 ok15_pref11_Check h
theorem ok15_pref12_Check : cFun Try.prog H_pref12_Check Try.f31 = some (c_pref12_Check F15) := by kernel_rfl
theorem a15_pref12_Check {xs : List Arg} {rv : RV} {outs : List Blk} (h : (c_pref12_Check F15).gives (ACall Try.prog) xs rv outs) : ACall Try.prog (F15 n_pref12_Check) xs rv outs := acall_of mix15 Try.func31 ok15_pref12_Check h
theorem ok15_pref12_Good : cFun Try.prog H_pref12_Good Try.f16 = some (c_pref12_Good F15) := by kernel_rfl
theorem a15_pref12_Good {xs : List Arg} {rv : RV} {outs : List Blk} (h : (c_pref12_Good F15).gives (ACall Try.prog) xs rv outs) : ACall Try.prog (F15 n_pref12_Good) xs rv outs := acall_of mix15 Try.func16 ok15_pref12_Good h
theorem ok15_pref08_one : cFun Try.prog H_pref08_one Try.f51 = some (c_pref08_one F15) := by kernel_rfl
theorem a15_pref08_one {xs : List Arg} {rv : RV} {outs : List Blk} (h : (c_pref08_one F15).gives (ACall Try.prog) xs rv outs) : ACall Try.prog (F15 n_pref08_one) xs rv outs := acall_of mix15 Try.func51 ok15_pref08_one h
theorem ok15_pref08_Right : cFun Try.prog H_pref08_Right Try.f32 = some (c_pref08_Right F15) := by kernel_rfl
theorem a15_pref08_Right {xs : List Arg} {rv : RV} {outs : List Blk} (h : (c_pref08_Right F15).gives (ACall Try.prog) xs rv outs) : ACall Try.prog (F15 n_pref08_Right) xs rv outs := acall_of mix15 Try.func32 ok15_pref08_Right h
theorem ok15_pref08_Good : cFun Try.prog H_pref08_Good Try.f17 = some (c_pref08_Good F15) := by kernel_rfl
theorem a15_pref08_Good {xs : List Arg} {rv : RV} {outs : List Blk} (h : (c_pref08_Good F15).gives (ACall Try.prog) xs rv outs) : ACall Try.prog (F15 n_pref08_Good) xs rv outs := acall_of mix15 Try.func17 ok15_pref08_Good h
theorem ok15_plaw13_Good : cFun Try.prog H_plaw13_Good Try.f4 = some (c_plaw13_Good F15) := by kernel_rfl
theorem a15_plaw13_Good {xs : List Arg} {rv : RV} {outs : List Blk} (h : (c_plaw13_Good F15).gives (ACall Try.prog) xs rv outs) : ACall Try.prog (F15 n_plaw13_Good) xs rv outs := acall_of mix15 Try.func4 ok15_plaw13_Good h
theorem ok15_pref11_Covers : cFun Try.prog H_pref11_Covers Try.f35 = some (c_pref11_Covers F15) := by kernel_rfl
theorem a15_pref11_Covers {xs : List Arg} {rv : RV} {outs : List Blk} (h : (c_pref11_Covers F15).gives (ACall Try.prog) xs rv outs) : ACall Try.prog (F15 n_pref11_Covers) xs rv outs := acall_of mix15 Try.func35 ok15_pref11_Covers h
theorem ok15_pref08_Get : cFun Try.prog H_pref08_Get Try.f34 = some (c_pref08_Get F15) := by kernel_rfl
theorem a15_pref08_Get {xs : List Arg} {rv : RV} {outs : List Blk} (h : (c_pref08_Get F15).gives (ACall Try.prog) xs rv outs) : ACall Try.prog (F15 n_pref08_Get) xs rv outs := acall_of mix15 Try.func34 ok15_pref08_Get h
theorem ok15_pref08_Seen : cFun Try.prog H_pref08_Seen Try.f21 = some (c_pref08_Seen F15) := by kernel_rfl
theorem a15_pref08_Seen {xs : List Arg} {rv : RV} {outs : List Blk} (h : (c_pref08_Seen F15).gives (ACall Try.prog) xs rv outs) : ACall Try.prog (F15 n_pref08_Seen) xs rv outs := acall_of mix15 Try.func21 ok15_pref08_Seen h
theorem ok15_pref13_Covered : cFun Try.prog H_pref13_Covered Try.f22 = some (c_pref13_Covered F15) := by kernel_rfl
theorem a15_pref13_Covered {xs : List Arg} {rv : RV} {outs : List Blk} (h : (c_pref13_Covered F15).gives (ACall Try.prog) xs rv outs) : ACall Try.prog (F15 n_pref13_Covered) xs rv outs := acall_of mix15 Try.func22 ok15_pref13_Covered h
theorem ok15_pref13_All : cFun Try.prog H_pref13_All Try.f8 = some (c_pref13_All F15) := by kernel_rfl
theorem a15_pref13_All {xs : List Arg} {rv : RV} {outs : List Blk} (h : (c_pref13_All F15).gives (ACall Try.prog) xs rv outs) : ACall Try.prog (F15 n_pref13_All) xs rv outs := acall_of mix15 Try.func8 ok15_pref13_All h
theorem ok15_pref11_Leaf : cFun Try.prog H_pref11_Leaf Try.f36 = some (c_pref11_Leaf F15) := by kernel_rfl
theorem a15_pref11_Leaf {xs : List Arg} {rv : RV} {outs : List Blk} (h : (c_pref11_Leaf F15).gives (ACall Try.prog) xs rv outs) : ACall Try.prog (F15 n_pref11_Leaf) xs rv outs := acall_of mix15 Try.func36 ok15_pref11_Leaf h
theorem ok15_pref09_ints : cFun Try.prog H_pref09_ints Try.f58 = some (c_pref09_ints F15) := by kernel_rfl
theorem a15_pref09_ints {xs : List Arg} {rv : RV} {outs : List Blk} (h : (c_pref09_ints F15).gives (ACall Try.prog) xs rv outs) : ACall Try.prog (F15 n_pref09_ints) xs rv outs := acall_of mix15 Try.func58 ok15_pref09_ints h
theorem ok15_pref09_Texts : cFun Try.prog H_pref09_Texts Try.f53 = some (c_pref09_Texts F15) := by kernel_rfl
theorem a15_pref09_Texts {xs : List Arg} {rv : RV} {outs : List Blk} (h : (c_pref09_Texts F15).gives (ACall Try.prog) xs rv outs) : ACall Try.prog (F15 n_pref09_Texts) xs rv outs := acall_of mix15 Try.func53 ok15_pref09_Texts h
theorem ok15_pref10_Compare : cFun Try.prog H_pref10_Compare Try.f37 = some (c_pref10_Compare F15) := by kernel_rfl
theorem a15_pref10_Compare {xs : List Arg} {rv : RV} {outs : List Blk} (h : (c_pref10_Compare F15).gives (ACall Try.prog) xs rv outs) : ACall Try.prog (F15 n_pref10_Compare) xs rv outs := acall_of mix15 Try.func37 ok15_pref10_Compare h
theorem ok15_pref13_At : cFun Try.prog H_pref13_At Try.f23 = some (c_pref13_At F15) := by kernel_rfl
theorem a15_pref13_At {xs : List Arg} {rv : RV} {outs : List Blk} (h : (c_pref13_At F15).gives (ACall Try.prog) xs rv outs) : ACall Try.prog (F15 n_pref13_At) xs rv outs := acall_of mix15 Try.func23 ok15_pref13_At h
theorem ok15_pref15_Adds : cFun Try.prog H_pref15_Adds Try.f9 = some (c_pref15_Adds F15) := by kernel_rfl
theorem a15_pref15_Adds {xs : List Arg} {rv : RV} {outs : List Blk} (h : (c_pref15_Adds F15).gives (ACall Try.prog) xs rv outs) : ACall Try.prog (F15 n_pref15_Adds) xs rv outs := acall_of mix15 Try.func9 ok15_pref15_Adds h
theorem ok15_slices_BinarySearchFunc_api_Value_api_Value_api_Value : cFun Try.prog H_slices_BinarySearchFunc_api_Value_api_Value_api_Value Try.f25 = some (c_slices_BinarySearchFunc_api_Value_api_Value_api_Value F15) := by kernel_rfl
theorem a15_slices_BinarySearchFunc_api_Value_api_Value_api_Value {xs : List Arg} {rv : RV} {outs : List Blk} (h : (c_slices_BinarySearchFunc_api_Value_api_Value_api_Value F15).gives (ACall Try.prog) xs rv outs) : ACall Try.prog (F15 n_slices_BinarySearchFunc_api_Value_api_Value_api_Value) xs rv outs := acall_of mix15 Try.func25 ok15_slices_BinarySearchFunc_api_Value_api_Value_api_Value h
theorem ok15_value_Compare : cFun Try.prog H_value_Compare Try.f26 = some (c_value_Compare F15) := by kernel_rfl
theorem a15_value_Compare {xs : List Arg} {rv : RV} {outs : List Blk} (h : (c_value_Compare F15).gives (ACall Try.prog) xs rv outs) : ACall Try.prog (F15 n_value_Compare) xs rv outs := acall_of mix15 Try.func26 ok15_value_Compare h
theorem ok15_bag_Values : cFun Try.prog H_bag_Values Try.f11 = some (c_bag_Values F15) := by kernel_rfl
theorem a15_bag_Values {xs : List Arg} {rv : RV} {outs : List Blk} (h : (c_bag_Values F15).gives (ACall Try.prog) xs rv outs) : ACall Try.prog (F15 n_bag_Values) xs rv outs := acall_of mix15 Try.func11 ok15_bag_Values h
theorem ok15_pref09_Compare : cFun Try.prog H_pref09_Compare Try.f45 = some (c_pref09_Compare F15) := by kernel_rfl
theorem a15_pref09_Compare {xs : List Arg} {rv : RV} {outs : List Blk} (h : (c_pref09_Compare F15).gives (ACall Try.prog) xs rv outs) : ACall Try.prog (F15 n_pref09_Compare) xs rv outs := acall_of mix15 Try.func45 ok15_pref09_Compare h
theorem ok15_pref14_Insert : cFun Try.prog H_pref14_Insert Try.f28 = some (c_pref14_Insert F15) := by kernel_rfl
theorem a15_pref14_Insert {xs : List Arg} {rv : RV} {outs : List Blk} (h : (c_pref14_Insert F15).gives (ACall Try.prog) xs rv outs) : ACall Try.prog (F15 n_pref14_Insert) xs rv outs := acall_of mix15 Try.func28 ok15_pref14_Insert h
theorem ok15_pref15_Values : cFun Try.prog H_pref15_Values Try.f12 = some (c_pref15_Values F15) := by kernel_rfl
theorem a15_pref15_Values {xs : List Arg} {rv : RV} {outs : List Blk} (h : (c_pref15_Values F15).gives (ACall Try.prog) xs rv outs) : ACall Try.prog (F15 n_pref15_Values) xs rv outs := acall_of mix15 Try.func12 ok15_pref15_Values h
theorem ok15_pref09_Same : cFun Try.prog H_pref09_Same Try.f10 = some (c_pref09_Same F15) := by kernel_rfl
theorem a15_pref09_Same {xs : List Arg} {rv : RV} {outs : List Blk} (h : (c_pref09_Same F15).gives (ACall Try.prog) xs rv outs) : ACall Try.prog (F15 n_pref09_Same) xs rv outs := acall_of mix15 Try.func10 ok15_pref09_Same h
theorem ok15_pref13_SameRefs : cFun Try.prog H_pref13_SameRefs Try.f13 = some (c_pref13_SameRefs F15) := by kernel_rfl
theorem a15_pref13_SameRefs {xs : List Arg} {rv : RV} {outs : List Blk} (h : (c_pref13_SameRefs F15).gives (ACall Try.prog) xs rv outs) : ACall Try.prog (F15 n_pref13_SameRefs) xs rv outs := acall_of mix15 Try.func13 ok15_pref13_SameRefs h
theorem ok15_plaw15_BagTells : cFun Try.prog H_plaw15_BagTells Try.f3 = some (c_plaw15_BagTells F15) := by kernel_rfl
theorem a15_plaw15_BagTells {xs : List Arg} {rv : RV} {outs : List Blk} (h : (c_plaw15_BagTells F15).gives (ACall Try.prog) xs rv outs) : ACall Try.prog (F15 n_plaw15_BagTells) xs rv outs := acall_of mix15 Try.func3 ok15_plaw15_BagTells h
end Go.AR
