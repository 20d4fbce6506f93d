import Derived.Test.YteombjhaanohiaaFun
import Derived.Test.YteombjhaanohiaaK07
import Derived.Test.YteombjhaanohiaaKp05
import Derived.Test.YteombjhaanohiaaKvec
import Derived.Test.YteombjhaanohiaaSeat07
set_option linter.all false
namespace Go.AR
open Go Go.Proofs
theorem ok07_matrix_replica : cFun Try.prog H_matrix_replica Try.f21 = some (c_matrix_replica F07) := by kernel_rfl
theorem a07_matrix_replica {xs : List Arg} {rv : RV} {outs : List Blk} (h : (c_matrix_replica F07).gives (ACall Try.prog) xs rv outs) : ACall Try.prog (F07 n_matrix_replica) xs rv outs := acall_of mix07 Try.func21 ok07_matrix_replica h
theorem ok07_vec_both : cFun Try.prog H_vec_both Try.f28 = some (c_vec_both F07) := by kernel_rfl
theorem a07_vec_both {xs : List Arg} {rv : RV} {outs : List Blk} (h : (c_vec_both F07).gives (ACall Try.prog) xs rv outs) : ACall Try.prog (F07 n_vec_both) xs rv outs := acall_of mix07 Try.func28 ok07_vec_both h
theorem ok07_vec_Join_1 : cFun Try.prog H_vec_Join_1 Try.f29 = some (c_vec_Join_1 F07) := by kernel_rfl
theorem a07_vec_Join_1 {xs : List Arg} {rv : RV} {outs : List Blk} (h : (c_vec_Join_1 F07).gives (ACall Try.prog) xs rv outs) : ACall Try.prog (F07 n_vec_Join_1) xs rv outs := acall_of mix07 Try.func29 ok07_vec_Join_1 h
theorem ok07_vec_Join : cFun Try.prog H_vec_Join Try.f22 = some (c_vec_Join F07) := by kernel_rfl
theorem a07_vec_Join {xs : List Arg} {rv : RV} {outs : List Blk} (h : (c_vec_Join F07).gives (ACall Try.prog) xs rv outs) : ACall Try.prog (F07 n_vec_Join) xs rv outs := acall_of mix07 Try.func22 ok07_vec_Join h
theorem ok07_matrix_Matrix_Learn : cFun Try.prog H_matrix_Matrix_Learn Try.f7 = some (c_matrix_Matrix_Learn F07) := by kernel_rfl
theorem a07_matrix_Matrix_Learn {xs : List Arg} {rv : RV} {outs : List Blk} (h : (c_matrix_Matrix_Learn F07).gives (ACall Try.prog) xs rv outs) : ACall Try.prog (F07 n_matrix_Matrix_Learn) xs rv outs := acall_of mix07 Try.func7 ok07_matrix_Matrix_Learn h
theorem ok07_vec_Meet_1 : cFun Try.prog H_vec_Meet_1 Try.f30 = some (c_vec_Meet_1 F07) := by kernel_rfl
theorem a07_vec_Meet_1 {xs : List Arg} {rv : RV} {outs : List Blk} (h : (c_vec_Meet_1 F07).gives (ACall Try.prog) xs rv outs) : ACall Try.prog (F07 n_vec_Meet_1) xs rv outs := acall_of mix07 Try.func30 ok07_vec_Meet_1 h
theorem ok07_vec_Meet : cFun Try.prog H_vec_Meet Try.f23 = some (c_vec_Meet F07) := by kernel_rfl
theorem a07_vec_Meet {xs : List Arg} {rv : RV} {outs : List Blk} (h : (c_vec_Meet F07).gives (ACall Try.prog) xs rv outs) : ACall Try.prog (F07 n_vec_Meet) xs rv outs := acall_of mix07 Try.func23 ok07_vec_Meet h
theorem ok07_matrix_Matrix_Frontier : cFun Try.prog H_matrix_Matrix_Frontier Try.f9 = some (c_matrix_Matrix_Frontier F07) := by kernel_rfl
theorem a07_matrix_Matrix_Frontier {xs : List Arg} {rv : RV} {outs : List Blk} (h : (c_matrix_Matrix_Frontier F07).gives (ACall Try.prog) xs rv outs) : ACall Try.prog (F07 n_matrix_Matrix_Frontier) xs rv outs := acall_of mix07 Try.func9 ok07_matrix_Matrix_Frontier h
theorem ok07_dot_Right : cFun Try.prog H_dot_Right Try.f31 = some (c_dot_Right F07) := by kernel_rfl
theorem a07_dot_Right {xs : List Arg} {rv : RV} {outs : List Blk} (h : (c_dot_Right F07).gives (ACall Try.prog) xs rv outs) : ACall Try.prog (F07 n_dot_Right) xs rv outs := acall_of mix07 Try.func31 ok07_dot_Right h
theorem ok07_vec_Has : cFun Try.prog H_vec_Has Try.f24 = some (c_vec_Has F07) := by kernel_rfl
theorem a07_vec_Has {xs : List Arg} {rv : RV} {outs : List Blk} (h : (c_vec_Has F07).gives (ACall Try.prog) xs rv outs) : ACall Try.prog (F07 n_vec_Has) xs rv outs := acall_of mix07 Try.func24 ok07_vec_Has h
theorem ok07_matrix_Matrix_Stable : cFun Try.prog H_matrix_Matrix_Stable Try.f10 = some (c_matrix_Matrix_Stable F07) := by kernel_rfl
theorem a07_matrix_Matrix_Stable {xs : List Arg} {rv : RV} {outs : List Blk} (h : (c_matrix_Matrix_Stable F07).gives (ACall Try.prog) xs rv outs) : ACall Try.prog (F07 n_matrix_Matrix_Stable) xs rv outs := acall_of mix07 Try.func10 ok07_matrix_Matrix_Stable h
theorem ok07_plaw07_awake : cFun Try.prog H_plaw07_awake Try.f11 = some (c_plaw07_awake F07) := by kernel_rfl
theorem a07_plaw07_awake {xs : List Arg} {rv : RV} {outs : List Blk} (h : (c_plaw07_awake F07).gives (ACall Try.prog) xs rv outs) : ACall Try.prog (F07 n_plaw07_awake) xs rv outs := acall_of mix07 Try.func11 ok07_plaw07_awake h
theorem ok07_pref05_Join : cFun Try.prog H_pref05_Join Try.f20 = some (c_pref05_Join F07) := by kernel_rfl
theorem a07_pref05_Join {xs : List Arg} {rv : RV} {outs : List Blk} (h : (c_pref05_Join F07).gives (ACall Try.prog) xs rv outs) : ACall Try.prog (F07 n_pref05_Join) xs rv outs := acall_of mix07 Try.func20 ok07_pref05_Join h
theorem ok07_pref07_Learn : cFun Try.prog H_pref07_Learn Try.f13 = some (c_pref07_Learn F07) := by kernel_rfl
theorem a07_pref07_Learn {xs : List Arg} {rv : RV} {outs : List Blk} (h : (c_pref07_Learn F07).gives (ACall Try.prog) xs rv outs) : ACall Try.prog (F07 n_pref07_Learn) xs rv outs := acall_of mix07 Try.func13 ok07_pref07_Learn h
theorem ok07_matrix_Matrix_Row : cFun Try.prog H_matrix_Matrix_Row Try.f14 = some (c_matrix_Matrix_Row F07) := by kernel_rfl
theorem a07_matrix_Matrix_Row {xs : List Arg} {rv : RV} {outs : List Blk} (h : (c_matrix_Matrix_Row F07).gives (ACall Try.prog) xs rv outs) : ACall Try.prog (F07 n_matrix_Matrix_Row) xs rv outs := acall_of mix07 Try.func14 ok07_matrix_Matrix_Row h
theorem ok07_pref07_Frontier : cFun Try.prog H_pref07_Frontier Try.f15 = some (c_pref07_Frontier F07) := by kernel_rfl
theorem a07_pref07_Frontier {xs : List Arg} {rv : RV} {outs : List Blk} (h : (c_pref07_Frontier F07).gives (ACall Try.prog) xs rv outs) : ACall Try.prog (F07 n_pref07_Frontier) xs rv outs := acall_of mix07 Try.func15 ok07_pref07_Frontier h
theorem ok07_pref04_Right : cFun Try.prog H_pref04_Right Try.f25 = some (c_pref04_Right F07) := by kernel_rfl
theorem a07_pref04_Right {xs : List Arg} {rv : RV} {outs : List Blk} (h : (c_pref04_Right F07).gives (ACall Try.prog) xs rv outs) : ACall Try.prog (F07 n_pref04_Right) xs rv outs := acall_of mix07 Try.func25 ok07_pref04_Right h
theorem ok07_pref05_Has : cFun Try.prog H_pref05_Has Try.f12 = some (c_pref05_Has F07) := by kernel_rfl
theorem a07_pref05_Has {xs : List Arg} {rv : RV} {outs : List Blk} (h : (c_pref05_Has F07).gives (ACall Try.prog) xs rv outs) : ACall Try.prog (F07 n_pref05_Has) xs rv outs := acall_of mix07 Try.func12 ok07_pref05_Has h
theorem ok07_pref05_Right : cFun Try.prog H_pref05_Right Try.f26 = some (c_pref05_Right F07) := by kernel_rfl
theorem a07_pref05_Right {xs : List Arg} {rv : RV} {outs : List Blk} (h : (c_pref05_Right F07).gives (ACall Try.prog) xs rv outs) : ACall Try.prog (F07 n_pref05_Right) xs rv outs := acall_of mix07 Try.func26 ok07_pref05_Right h
theorem ok07_plaw07_right : cFun Try.prog H_plaw07_right Try.f16 = some (c_plaw07_right F07) := by kernel_rfl
theorem a07_plaw07_right {xs : List Arg} {rv : RV} {outs : List Blk} (h : (c_plaw07_right F07).gives (ACall Try.prog) xs rv outs) : ACall Try.prog (F07 n_plaw07_right) xs rv outs := acall_of mix07 Try.func16 ok07_plaw07_right h
theorem ok07_vec_Count : cFun Try.prog H_vec_Count Try.f27 = some (c_vec_Count F07) := by kernel_rfl
theorem a07_vec_Count {xs : List Arg} {rv : RV} {outs : List Blk} (h : (c_vec_Count F07).gives (ACall Try.prog) xs rv outs) : ACall Try.prog (F07 n_vec_Count) xs rv outs := acall_of mix07 Try.func27 ok07_vec_Count h
theorem ok07_matrix_Matrix_Behind : cFun Try.prog H_matrix_Matrix_Behind Try.f17 = some (c_matrix_Matrix_Behind F07) := by kernel_rfl
theorem a07_matrix_Matrix_Behind {xs : List Arg} {rv : RV} {outs : List Blk} (h : (c_matrix_Matrix_Behind F07).gives (ACall Try.prog) xs rv outs) : ACall Try.prog (F07 n_matrix_Matrix_Behind) xs rv outs := acall_of mix07 Try.func17 ok07_matrix_Matrix_Behind h
theorem ok07_pref07_Behind : cFun Try.prog H_pref07_Behind Try.f18 = some (c_pref07_Behind F07) := by kernel_rfl
theorem a07_pref07_Behind {xs : List Arg} {rv : RV} {outs : List Blk} (h : (c_pref07_Behind F07).gives (ACall Try.prog) xs rv outs) : ACall Try.prog (F07 n_pref07_Behind) xs rv outs := acall_of mix07 Try.func18 ok07_pref07_Behind h
theorem ok07_plaw07_MatrixTells : cFun Try.prog H_plaw07_MatrixTells Try.f5 = some (c_plaw07_MatrixTells F07) := by kernel_rfl
theorem a07_plaw07_MatrixTells {xs : List Arg} {rv : RV} {outs : List Blk} (h : (c_plaw07_MatrixTells F07).gives (ACall Try.prog) xs rv outs) : ACall Try.prog (F07 n_plaw07_MatrixTells) xs rv outs := acall_of mix07 Try.func5 ok07_plaw07_MatrixTells h
theorem ok07_matrix_Matrix_Join : cFun Try.prog H_matrix_Matrix_Join Try.f19 = some (c_matrix_Matrix_Join F07) := by kernel_rfl
theorem a07_matrix_Matrix_Join {xs : List Arg} {rv : RV} {outs : List Blk} (h : (c_matrix_Matrix_Join F07).gives (ACall Try.prog) xs rv outs) : ACall Try.prog (F07 n_matrix_Matrix_Join) xs rv outs := acall_of mix07 Try.func19 ok07_matrix_Matrix_Join h
theorem ok07_pref05_Within : cFun Try.prog H_pref05_Within Try.f8 = some (c_pref05_Within F07) := by kernel_rfl
theorem a07_pref05_Within {xs : List Arg} {rv : RV} {outs : List Blk} (h : (c_pref05_Within F07).gives (ACall Try.prog) xs rv outs) : ACall Try.prog (F07 n_pref05_Within) xs rv outs := acall_of mix07 Try.func8 ok07_pref05_Within h
theorem ok07_plaw07_MatrixJoins : cFun Try.prog H_plaw07_MatrixJoins Try.f6 = some (c_plaw07_MatrixJoins F07) := by kernel_rfl
theorem a07_plaw07_MatrixJoins {xs : List Arg} {rv : RV} {outs : List Blk} (h : (c_plaw07_MatrixJoins F07).gives (ACall Try.prog) xs rv outs) : ACall Try.prog (F07 n_plaw07_MatrixJoins) xs rv outs := acall_of mix07 Try.func6 ok07_plaw07_MatrixJoins h
end Go.AR
