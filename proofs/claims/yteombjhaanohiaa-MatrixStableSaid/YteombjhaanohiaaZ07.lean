import Derived.Test.YteombjhaanohiaaFun
import Derived.Test.YteombjhaanohiaaKvec
import Derived.Test.YteombjhaanohiaaKp05
import Derived.Test.YteombjhaanohiaaK07
import Derived.Test.YteombjhaanohiaaChecked
import Derived.KernelRfl
set_option linter.all false
/-! The seat: which function is which, and its code. Printed by program. -/
namespace Go.AR
open Go Go.Proofs
def F07 : Nat → FuncId := fun i => (get [(1, 22), (2, 23), (6, 24), (9, 26), (10, 12), (11, 20), (13, 8), (16, 27), (18, 28), (19, 29), (20, 30), (21, 31), (23, 0), (24, 1), (25, 2), (42, 32), (43, 33), (44, 34), (45, 35), (46, 36), (47, 37), (48, 38), (49, 39), (50, 40), (51, 41), (52, 42), (53, 43), (54, 44), (55, 45), (56, 46), (57, 47), (77, 3), (78, 7), (79, 9), (80, 10), (81, 11), (82, 4), (83, 5), (84, 13), (85, 14), (86, 15), (87, 16), (88, 17), (89, 18), (90, 6), (91, 19), (92, 21), (93, 25)] i).getD 0
theorem mix07 : Try.prog.follows .mixedOrders = true := by kernel_rfl
theorem ok07_matrix_replica : cFun Try.prog H_matrix_replica Try.f21 = some (c_matrix_replica F07) := by kernel_rfl
theorem a07_matrix_replica {xs : List Arg} {rv : RV} {outs : List Blk} (h : (c_matrix_replica F07).gives (ACall Try.prog) xs rv outs) : ACall Try.prog (F07 n_matrix_replica) xs rv outs := acall_of mix07 Try.func21 ok07_matrix_replica h
theorem ok07_matrix_Matrix_Learn : cFun Try.prog H_matrix_Matrix_Learn Try.f7 = some (c_matrix_Matrix_Learn F07) := by kernel_rfl
theorem a07_matrix_Matrix_Learn {xs : List Arg} {rv : RV} {outs : List Blk} (h : (c_matrix_Matrix_Learn F07).gives (ACall Try.prog) xs rv outs) : ACall Try.prog (F07 n_matrix_Matrix_Learn) xs rv outs := acall_of mix07 Try.func7 ok07_matrix_Matrix_Learn h
theorem ok07_matrix_Matrix_Row : cFun Try.prog H_matrix_Matrix_Row Try.f14 = some (c_matrix_Matrix_Row F07) := by kernel_rfl
theorem a07_matrix_Matrix_Row {xs : List Arg} {rv : RV} {outs : List Blk} (h : (c_matrix_Matrix_Row F07).gives (ACall Try.prog) xs rv outs) : ACall Try.prog (F07 n_matrix_Matrix_Row) xs rv outs := acall_of mix07 Try.func14 ok07_matrix_Matrix_Row h
theorem ok07_matrix_Matrix_Frontier : cFun Try.prog H_matrix_Matrix_Frontier Try.f9 = some (c_matrix_Matrix_Frontier F07) := by kernel_rfl
theorem a07_matrix_Matrix_Frontier {xs : List Arg} {rv : RV} {outs : List Blk} (h : (c_matrix_Matrix_Frontier F07).gives (ACall Try.prog) xs rv outs) : ACall Try.prog (F07 n_matrix_Matrix_Frontier) xs rv outs := acall_of mix07 Try.func9 ok07_matrix_Matrix_Frontier h
theorem ok07_matrix_Matrix_Stable : cFun Try.prog H_matrix_Matrix_Stable Try.f10 = some (c_matrix_Matrix_Stable F07) := by kernel_rfl
theorem a07_matrix_Matrix_Stable {xs : List Arg} {rv : RV} {outs : List Blk} (h : (c_matrix_Matrix_Stable F07).gives (ACall Try.prog) xs rv outs) : ACall Try.prog (F07 n_matrix_Matrix_Stable) xs rv outs := acall_of mix07 Try.func10 ok07_matrix_Matrix_Stable h
theorem ok07_vec_both : cFun Try.prog H_vec_both Try.f28 = some (c_vec_both F07) := by kernel_rfl
theorem a07_vec_both {xs : List Arg} {rv : RV} {outs : List Blk} (h : (c_vec_both F07).gives (ACall Try.prog) xs rv outs) : ACall Try.prog (F07 n_vec_both) xs rv outs := acall_of mix07 Try.func28 ok07_vec_both h
theorem ok07_vec_Join_1 : cFun Try.prog H_vec_Join_1 Try.f29 = some (c_vec_Join_1 F07) := by kernel_rfl
theorem a07_vec_Join_1 {xs : List Arg} {rv : RV} {outs : List Blk} (h : (c_vec_Join_1 F07).gives (ACall Try.prog) xs rv outs) : ACall Try.prog (F07 n_vec_Join_1) xs rv outs := acall_of mix07 Try.func29 ok07_vec_Join_1 h
theorem ok07_vec_Meet_1 : cFun Try.prog H_vec_Meet_1 Try.f30 = some (c_vec_Meet_1 F07) := by kernel_rfl
theorem a07_vec_Meet_1 {xs : List Arg} {rv : RV} {outs : List Blk} (h : (c_vec_Meet_1 F07).gives (ACall Try.prog) xs rv outs) : ACall Try.prog (F07 n_vec_Meet_1) xs rv outs := acall_of mix07 Try.func30 ok07_vec_Meet_1 h
theorem ok07_vec_Join : cFun Try.prog H_vec_Join Try.f22 = some (c_vec_Join F07) := by kernel_rfl
theorem a07_vec_Join {xs : List Arg} {rv : RV} {outs : List Blk} (h : (c_vec_Join F07).gives (ACall Try.prog) xs rv outs) : ACall Try.prog (F07 n_vec_Join) xs rv outs := acall_of mix07 Try.func22 ok07_vec_Join h
theorem ok07_vec_Meet : cFun Try.prog H_vec_Meet Try.f23 = some (c_vec_Meet F07) := by kernel_rfl
theorem a07_vec_Meet {xs : List Arg} {rv : RV} {outs : List Blk} (h : (c_vec_Meet F07).gives (ACall Try.prog) xs rv outs) : ACall Try.prog (F07 n_vec_Meet) xs rv outs := acall_of mix07 Try.func23 ok07_vec_Meet h
theorem ok07_vec_Has : cFun Try.prog H_vec_Has Try.f24 = some (c_vec_Has F07) := by kernel_rfl
theorem a07_vec_Has {xs : List Arg} {rv : RV} {outs : List Blk} (h : (c_vec_Has F07).gives (ACall Try.prog) xs rv outs) : ACall Try.prog (F07 n_vec_Has) xs rv outs := acall_of mix07 Try.func24 ok07_vec_Has h
theorem ok07_dot_Right : cFun Try.prog H_dot_Right Try.f31 = some (c_dot_Right F07) := by kernel_rfl
theorem a07_dot_Right {xs : List Arg} {rv : RV} {outs : List Blk} (h : (c_dot_Right F07).gives (ACall Try.prog) xs rv outs) : ACall Try.prog (F07 n_dot_Right) xs rv outs := acall_of mix07 Try.func31 ok07_dot_Right h
theorem ok07_pref04_Right : cFun Try.prog H_pref04_Right Try.f25 = some (c_pref04_Right F07) := by kernel_rfl
theorem a07_pref04_Right {xs : List Arg} {rv : RV} {outs : List Blk} (h : (c_pref04_Right F07).gives (ACall Try.prog) xs rv outs) : ACall Try.prog (F07 n_pref04_Right) xs rv outs := acall_of mix07 Try.func25 ok07_pref04_Right h
theorem ok07_pref05_Has : cFun Try.prog H_pref05_Has Try.f12 = some (c_pref05_Has F07) := by kernel_rfl
theorem a07_pref05_Has {xs : List Arg} {rv : RV} {outs : List Blk} (h : (c_pref05_Has F07).gives (ACall Try.prog) xs rv outs) : ACall Try.prog (F07 n_pref05_Has) xs rv outs := acall_of mix07 Try.func12 ok07_pref05_Has h
theorem ok07_pref05_Within : cFun Try.prog H_pref05_Within Try.f8 = some (c_pref05_Within F07) := by kernel_rfl
theorem a07_pref05_Within {xs : List Arg} {rv : RV} {outs : List Blk} (h : (c_pref05_Within F07).gives (ACall Try.prog) xs rv outs) : ACall Try.prog (F07 n_pref05_Within) xs rv outs := acall_of mix07 Try.func8 ok07_pref05_Within h
theorem ok07_plaw07_awake : cFun Try.prog H_plaw07_awake Try.f11 = some (c_plaw07_awake F07) := by kernel_rfl
theorem a07_plaw07_awake {xs : List Arg} {rv : RV} {outs : List Blk} (h : (c_plaw07_awake F07).gives (ACall Try.prog) xs rv outs) : ACall Try.prog (F07 n_plaw07_awake) xs rv outs := acall_of mix07 Try.func11 ok07_plaw07_awake h
theorem ok07_plaw07_MatrixRises : cFun Try.prog H_plaw07_MatrixRises Try.f3 = some (c_plaw07_MatrixRises F07) := by kernel_rfl
theorem a07_plaw07_MatrixRises {xs : List Arg} {rv : RV} {outs : List Blk} (h : (c_plaw07_MatrixRises F07).gives (ACall Try.prog) xs rv outs) : ACall Try.prog (F07 n_plaw07_MatrixRises) xs rv outs := acall_of mix07 Try.func3 ok07_plaw07_MatrixRises h
theorem ok07_plaw07_MatrixStable : cFun Try.prog H_plaw07_MatrixStable Try.f4 = some (c_plaw07_MatrixStable F07) := by kernel_rfl
theorem a07_plaw07_MatrixStable {xs : List Arg} {rv : RV} {outs : List Blk} (h : (c_plaw07_MatrixStable F07).gives (ACall Try.prog) xs rv outs) : ACall Try.prog (F07 n_plaw07_MatrixStable) xs rv outs := acall_of mix07 Try.func4 ok07_plaw07_MatrixStable h
end Go.AR
