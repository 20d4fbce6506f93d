import Derived.Test.YtojhbllkhljggaaFun
import Derived.Test.YtojhbllkhljggaaK08
import Derived.Test.YtojhbllkhljggaaSeat08
set_option linter.all false
namespace Go.AR
open Go Go.Proofs
theorem ok08_dot_Right : cFun Try.prog H_dot_Right Try.f27 = some (c_dot_Right F08) := by kernel_rfl
theorem a08_dot_Right {xs : List Arg} {rv : RV} {outs : List Blk} (h : (c_dot_Right F08).gives (ACall Try.prog) xs rv outs) : ACall Try.prog (F08 n_dot_Right) xs rv outs := acall_of mix08 Try.func27 ok08_dot_Right h
theorem ok08_slices_BinarySearchFunc_api_Undo_api_Undo_api_Undo : cFun Try.prog H_slices_BinarySearchFunc_api_Undo_api_Undo_api_Undo Try.f35 = some (c_slices_BinarySearchFunc_api_Undo_api_Undo_api_Undo F08) := by kernel_rfl
theorem a08_slices_BinarySearchFunc_api_Undo_api_Undo_api_Undo {xs : List Arg} {rv : RV} {outs : List Blk} (h : (c_slices_BinarySearchFunc_api_Undo_api_Undo_api_Undo F08).gives (ACall Try.prog) xs rv outs) : ACall Try.prog (F08 n_slices_BinarySearchFunc_api_Undo_api_Undo_api_Undo) xs rv outs := acall_of mix08 Try.func35 ok08_slices_BinarySearchFunc_api_Undo_api_Undo_api_Undo h
theorem ok08_cmp_isNaN_int : cFun Try.prog H_cmp_isNaN_int Try.f44 = some (c_cmp_isNaN_int F08) := by kernel_rfl
theorem a08_cmp_isNaN_int {xs : List Arg} {rv : RV} {outs : List Blk} (h : (c_cmp_isNaN_int F08).gives (ACall Try.prog) xs rv outs) : ACall Try.prog (F08 n_cmp_isNaN_int) xs rv outs := acall_of mix08 Try.func44 ok08_cmp_isNaN_int h
theorem ok08_cmp_Compare_int : cFun Try.prog H_cmp_Compare_int Try.f42 = some (c_cmp_Compare_int F08) := by kernel_rfl
theorem a08_cmp_Compare_int {xs : List Arg} {rv : RV} {outs : List Blk} (h : (c_cmp_Compare_int F08).gives (ACall Try.prog) xs rv outs) : ACall Try.prog (F08 n_cmp_Compare_int) xs rv outs := acall_of mix08 Try.func42 ok08_cmp_Compare_int h
theorem ok08_cmp_Or_int : cFun Try.prog H_cmp_Or_int Try.f41 = some (c_cmp_Or_int F08) := by kernel_rfl
theorem a08_cmp_Or_int {xs : List Arg} {rv : RV} {outs : List Blk} (h : (c_cmp_Or_int F08).gives (ACall Try.prog) xs rv outs) : ACall Try.prog (F08 n_cmp_Or_int) xs rv outs := acall_of mix08 Try.func41 ok08_cmp_Or_int h
theorem ok08_dot_Compare : cFun Try.prog H_dot_Compare Try.f38 = some (c_dot_Compare F08) := by kernel_rfl
theorem a08_dot_Compare {xs : List Arg} {rv : RV} {outs : List Blk} (h : (c_dot_Compare F08).gives (ACall Try.prog) xs rv outs) : ACall Try.prog (F08 n_dot_Compare) xs rv outs := acall_of mix08 Try.func38 ok08_dot_Compare h
theorem ok08_tally_compare : cFun Try.prog H_tally_compare Try.f31 = some (c_tally_compare F08) := by kernel_rfl
theorem a08_tally_compare {xs : List Arg} {rv : RV} {outs : List Blk} (h : (c_tally_compare F08).gives (ACall Try.prog) xs rv outs) : ACall Try.prog (F08 n_tally_compare) xs rv outs := acall_of mix08 Try.func31 ok08_tally_compare h
theorem ok08_tally_at : cFun Try.prog H_tally_at Try.f28 = some (c_tally_at F08) := by kernel_rfl
theorem a08_tally_at {xs : List Arg} {rv : RV} {outs : List Blk} (h : (c_tally_at F08).gives (ACall Try.prog) xs rv outs) : ACall Try.prog (F08 n_tally_at) xs rv outs := acall_of mix08 Try.func28 ok08_tally_at h
theorem ok08_slices_Clone_api_Undo_api_Undo : cFun Try.prog H_slices_Clone_api_Undo_api_Undo Try.f30 = some (c_slices_Clone_api_Undo_api_Undo F08) := by kernel_rfl
theorem a08_slices_Clone_api_Undo_api_Undo {xs : List Arg} {rv : RV} {outs : List Blk} (h : (c_slices_Clone_api_Undo_api_Undo F08).gives (ACall Try.prog) xs rv outs) : ACall Try.prog (F08 n_slices_Clone_api_Undo_api_Undo) xs rv outs := acall_of mix08 Try.func30 ok08_slices_Clone_api_Undo_api_Undo h
theorem ok08_tally_Put : cFun Try.prog H_tally_Put Try.f13 = some (c_tally_Put F08) := by kernel_rfl
theorem a08_tally_Put {xs : List Arg} {rv : RV} {outs : List Blk} (h : (c_tally_Put F08).gives (ACall Try.prog) xs rv outs) : ACall Try.prog (F08 n_tally_Put) xs rv outs := acall_of mix08 Try.func13 ok08_tally_Put h
theorem ok08_tally_Get : cFun Try.prog H_tally_Get Try.f12 = some (c_tally_Get F08) := by kernel_rfl
theorem a08_tally_Get {xs : List Arg} {rv : RV} {outs : List Blk} (h : (c_tally_Get F08).gives (ACall Try.prog) xs rv outs) : ACall Try.prog (F08 n_tally_Get) xs rv outs := acall_of mix08 Try.func12 ok08_tally_Get h
theorem ok08_tally_Raise : cFun Try.prog H_tally_Raise Try.f11 = some (c_tally_Raise F08) := by kernel_rfl
theorem a08_tally_Raise {xs : List Arg} {rv : RV} {outs : List Blk} (h : (c_tally_Raise F08).gives (ACall Try.prog) xs rv outs) : ACall Try.prog (F08 n_tally_Raise) xs rv outs := acall_of mix08 Try.func11 ok08_tally_Raise h
theorem ok08_tally_Seen : cFun Try.prog H_tally_Seen Try.f14 = some (c_tally_Seen F08) := by kernel_rfl
theorem a08_tally_Seen {xs : List Arg} {rv : RV} {outs : List Blk} (h : (c_tally_Seen F08).gives (ACall Try.prog) xs rv outs) : ACall Try.prog (F08 n_tally_Seen) xs rv outs := acall_of mix08 Try.func14 ok08_tally_Seen h
theorem ok08_plaw08_awake : cFun Try.prog H_plaw08_awake Try.f10 = some (c_plaw08_awake F08) := by kernel_rfl
theorem a08_plaw08_awake {xs : List Arg} {rv : RV} {outs : List Blk} (h : (c_plaw08_awake F08).gives (ACall Try.prog) xs rv outs) : ACall Try.prog (F08 n_plaw08_awake) xs rv outs := acall_of mix08 Try.func10 ok08_plaw08_awake h
theorem ok08_tally_Right : cFun Try.prog H_tally_Right Try.f15 = some (c_tally_Right F08) := by kernel_rfl
theorem a08_tally_Right {xs : List Arg} {rv : RV} {outs : List Blk} (h : (c_tally_Right F08).gives (ACall Try.prog) xs rv outs) : ACall Try.prog (F08 n_tally_Right) xs rv outs := acall_of mix08 Try.func15 ok08_tally_Right h
theorem ok08_pref04_Right : cFun Try.prog H_pref04_Right Try.f9 = some (c_pref04_Right F08) := by kernel_rfl
theorem a08_pref04_Right {xs : List Arg} {rv : RV} {outs : List Blk} (h : (c_pref04_Right F08).gives (ACall Try.prog) xs rv outs) : ACall Try.prog (F08 n_pref04_Right) xs rv outs := acall_of mix08 Try.func9 ok08_pref04_Right h
theorem ok08_pref08_one : cFun Try.prog H_pref08_one Try.f32 = some (c_pref08_one F08) := by kernel_rfl
theorem a08_pref08_one {xs : List Arg} {rv : RV} {outs : List Blk} (h : (c_pref08_one F08).gives (ACall Try.prog) xs rv outs) : ACall Try.prog (F08 n_pref08_one) xs rv outs := acall_of mix08 Try.func32 ok08_pref08_one h
theorem ok08_pref04_ints : cFun Try.prog H_pref04_ints Try.f39 = some (c_pref04_ints F08) := by kernel_rfl
theorem a08_pref04_ints {xs : List Arg} {rv : RV} {outs : List Blk} (h : (c_pref04_ints F08).gives (ACall Try.prog) xs rv outs) : ACall Try.prog (F08 n_pref04_ints) xs rv outs := acall_of mix08 Try.func39 ok08_pref04_ints h
theorem ok08_pref04_Compare : cFun Try.prog H_pref04_Compare Try.f33 = some (c_pref04_Compare F08) := by kernel_rfl
theorem a08_pref04_Compare {xs : List Arg} {rv : RV} {outs : List Blk} (h : (c_pref04_Compare F08).gives (ACall Try.prog) xs rv outs) : ACall Try.prog (F08 n_pref04_Compare) xs rv outs := acall_of mix08 Try.func33 ok08_pref04_Compare h
theorem ok08_pref08_Right : cFun Try.prog H_pref08_Right Try.f16 = some (c_pref08_Right F08) := by kernel_rfl
theorem a08_pref08_Right {xs : List Arg} {rv : RV} {outs : List Blk} (h : (c_pref08_Right F08).gives (ACall Try.prog) xs rv outs) : ACall Try.prog (F08 n_pref08_Right) xs rv outs := acall_of mix08 Try.func16 ok08_pref08_Right h
theorem ok08_pref08_Get : cFun Try.prog H_pref08_Get Try.f18 = some (c_pref08_Get F08) := by kernel_rfl
theorem a08_pref08_Get {xs : List Arg} {rv : RV} {outs : List Blk} (h : (c_pref08_Get F08).gives (ACall Try.prog) xs rv outs) : ACall Try.prog (F08 n_pref08_Get) xs rv outs := acall_of mix08 Try.func18 ok08_pref08_Get h
theorem ok08_pref08_Raise : cFun Try.prog H_pref08_Raise Try.f17 = some (c_pref08_Raise F08) := by kernel_rfl
theorem a08_pref08_Raise {xs : List Arg} {rv : RV} {outs : List Blk} (h : (c_pref08_Raise F08).gives (ACall Try.prog) xs rv outs) : ACall Try.prog (F08 n_pref08_Raise) xs rv outs := acall_of mix08 Try.func17 ok08_pref08_Raise h
theorem ok08_pref08_Seen : cFun Try.prog H_pref08_Seen Try.f19 = some (c_pref08_Seen F08) := by kernel_rfl
theorem a08_pref08_Seen {xs : List Arg} {rv : RV} {outs : List Blk} (h : (c_pref08_Seen F08).gives (ACall Try.prog) xs rv outs) : ACall Try.prog (F08 n_pref08_Seen) xs rv outs := acall_of mix08 Try.func19 ok08_pref08_Seen h
theorem ok08_pref08_Put : cFun Try.prog H_pref08_Put Try.f21 = some (c_pref08_Put F08) := by kernel_rfl
theorem a08_pref08_Put {xs : List Arg} {rv : RV} {outs : List Blk} (h : (c_pref08_Put F08).gives (ACall Try.prog) xs rv outs) : ACall Try.prog (F08 n_pref08_Put) xs rv outs := acall_of mix08 Try.func21 ok08_pref08_Put h
theorem ok08_pref08_Same : cFun Try.prog H_pref08_Same Try.f20 = some (c_pref08_Same F08) := by kernel_rfl
theorem a08_pref08_Same {xs : List Arg} {rv : RV} {outs : List Blk} (h : (c_pref08_Same F08).gives (ACall Try.prog) xs rv outs) : ACall Try.prog (F08 n_pref08_Same) xs rv outs := acall_of mix08 Try.func20 ok08_pref08_Same h
theorem ok08_plaw08_TallyTells : cFun Try.prog H_plaw08_TallyTells Try.f4 = some (c_plaw08_TallyTells F08) := by kernel_rfl
theorem a08_plaw08_TallyTells {xs : List Arg} {rv : RV} {outs : List Blk} (h : (c_plaw08_TallyTells F08).gives (ACall Try.prog) xs rv outs) : ACall Try.prog (F08 n_plaw08_TallyTells) xs rv outs := acall_of mix08 Try.func4 ok08_plaw08_TallyTells h
theorem ok08_pref08_Good : cFun Try.prog H_pref08_Good Try.f8 = some (c_pref08_Good F08) := by kernel_rfl
theorem a08_pref08_Good {xs : List Arg} {rv : RV} {outs : List Blk} (h : (c_pref08_Good F08).gives (ACall Try.prog) xs rv outs) : ACall Try.prog (F08 n_pref08_Good) xs rv outs := acall_of mix08 Try.func8 ok08_pref08_Good h
theorem ok08_tally_Join : cFun Try.prog H_tally_Join Try.f22 = some (c_tally_Join F08) := by kernel_rfl
theorem a08_tally_Join {xs : List Arg} {rv : RV} {outs : List Blk} (h : (c_tally_Join F08).gives (ACall Try.prog) xs rv outs) : ACall Try.prog (F08 n_tally_Join) xs rv outs := acall_of mix08 Try.func22 ok08_tally_Join h
theorem ok08_tally_Over : cFun Try.prog H_tally_Over Try.f24 = some (c_tally_Over F08) := by kernel_rfl
theorem a08_tally_Over {xs : List Arg} {rv : RV} {outs : List Blk} (h : (c_tally_Over F08).gives (ACall Try.prog) xs rv outs) : ACall Try.prog (F08 n_tally_Over) xs rv outs := acall_of mix08 Try.func24 ok08_tally_Over h
theorem ok08_pref08_Join : cFun Try.prog H_pref08_Join Try.f25 = some (c_pref08_Join F08) := by kernel_rfl
theorem a08_pref08_Join {xs : List Arg} {rv : RV} {outs : List Blk} (h : (c_pref08_Join F08).gives (ACall Try.prog) xs rv outs) : ACall Try.prog (F08 n_pref08_Join) xs rv outs := acall_of mix08 Try.func25 ok08_pref08_Join h
theorem ok08_pref08_Over : cFun Try.prog H_pref08_Over Try.f26 = some (c_pref08_Over F08) := by kernel_rfl
theorem a08_pref08_Over {xs : List Arg} {rv : RV} {outs : List Blk} (h : (c_pref08_Over F08).gives (ACall Try.prog) xs rv outs) : ACall Try.prog (F08 n_pref08_Over) xs rv outs := acall_of mix08 Try.func26 ok08_pref08_Over h
theorem ok08_slices_Equal_api_Undo_api_Undo : cFun Try.prog H_slices_Equal_api_Undo_api_Undo Try.f34 = some (c_slices_Equal_api_Undo_api_Undo F08) := by kernel_rfl
theorem a08_slices_Equal_api_Undo_api_Undo {xs : List Arg} {rv : RV} {outs : List Blk} (h : (c_slices_Equal_api_Undo_api_Undo F08).gives (ACall Try.prog) xs rv outs) : ACall Try.prog (F08 n_slices_Equal_api_Undo_api_Undo) xs rv outs := acall_of mix08 Try.func34 ok08_slices_Equal_api_Undo_api_Undo h
theorem ok08_tally_Same : cFun Try.prog H_tally_Same Try.f23 = some (c_tally_Same F08) := by kernel_rfl
theorem a08_tally_Same {xs : List Arg} {rv : RV} {outs : List Blk} (h : (c_tally_Same F08).gives (ACall Try.prog) xs rv outs) : ACall Try.prog (F08 n_tally_Same) xs rv outs := acall_of mix08 Try.func23 ok08_tally_Same h
theorem ok08_plaw08_TallyJoins : cFun Try.prog H_plaw08_TallyJoins Try.f6 = some (c_plaw08_TallyJoins F08) := by kernel_rfl
theorem a08_plaw08_TallyJoins {xs : List Arg} {rv : RV} {outs : List Blk} (h : (c_plaw08_TallyJoins F08).gives (ACall Try.prog) xs rv outs) : ACall Try.prog (F08 n_plaw08_TallyJoins) xs rv outs := acall_of mix08 Try.func6 ok08_plaw08_TallyJoins h
theorem ok08_plaw08_TallyLattice : cFun Try.prog H_plaw08_TallyLattice Try.f5 = some (c_plaw08_TallyLattice F08) := by kernel_rfl
theorem a08_plaw08_TallyLattice {xs : List Arg} {rv : RV} {outs : List Blk} (h : (c_plaw08_TallyLattice F08).gives (ACall Try.prog) xs rv outs) : ACall Try.prog (F08 n_plaw08_TallyLattice) xs rv outs := acall_of mix08 Try.func5 ok08_plaw08_TallyLattice h
theorem ok08_plaw08_TallyDeltas : cFun Try.prog H_plaw08_TallyDeltas Try.f7 = some (c_plaw08_TallyDeltas F08) := by kernel_rfl
theorem a08_plaw08_TallyDeltas {xs : List Arg} {rv : RV} {outs : List Blk} (h : (c_plaw08_TallyDeltas F08).gives (ACall Try.prog) xs rv outs) : ACall Try.prog (F08 n_plaw08_TallyDeltas) xs rv outs := acall_of mix08 Try.func7 ok08_plaw08_TallyDeltas h
theorem ok08_plaw08_TallyTurns : cFun Try.prog H_plaw08_TallyTurns Try.f3 = some (c_plaw08_TallyTurns F08) := by kernel_rfl
theorem a08_plaw08_TallyTurns {xs : List Arg} {rv : RV} {outs : List Blk} (h : (c_plaw08_TallyTurns F08).gives (ACall Try.prog) xs rv outs) : ACall Try.prog (F08 n_plaw08_TallyTurns) xs rv outs := acall_of mix08 Try.func3 ok08_plaw08_TallyTurns h
end Go.AR
