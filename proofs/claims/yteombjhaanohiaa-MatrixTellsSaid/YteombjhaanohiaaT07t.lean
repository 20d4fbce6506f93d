import Derived.Test.YteombjhaanohiaaP07t
import Derived.Test.YteombjhaanohiaaP07j
import Derived.Test.YteombjhaanohiaaZ07t
set_option linter.all false
/-! The contracts of the seat. Printed by program. -/
namespace Go.AR
open Go Go.Proofs
theorem t07_replica : S_replica (C07 (F07 n_matrix_replica)) := by unfold S_replica; intros; apply a07_matrix_replica; apply g_replica (C := C07) (F := F07)  <;> assumption
theorem t07_vec_both : S_vec_both C07 (C07 (F07 n_vec_both)) := by unfold S_vec_both; intros; apply a07_vec_both; apply g_vec_both (C := C07) (F := F07)  <;> assumption
theorem t07_vec_Join_1 : S_fun2 (C07 (F07 n_vec_Join_1)) max := by unfold S_fun2; intros; apply a07_vec_Join_1; apply g_vec_Join_1 (C := C07) (F := F07)  <;> assumption
theorem t07_vec_Join : S_vec_op (C07 (F07 n_vec_Join)) max := by unfold S_vec_op; intros; apply a07_vec_Join; apply g_vec_Join (C := C07) (F := F07) t07_vec_both t07_vec_Join_1 <;> assumption
theorem t07_Learn : S_mlearn (C07 (F07 n_matrix_Matrix_Learn)) := by unfold S_mlearn; intros; apply a07_matrix_Matrix_Learn; apply g_Learn (C := C07) (F := F07) t07_replica t07_vec_Join <;> assumption
theorem t07_vec_Meet_1 : S_fun2 (C07 (F07 n_vec_Meet_1)) min := by unfold S_fun2; intros; apply a07_vec_Meet_1; apply g_vec_Meet_1 (C := C07) (F := F07)  <;> assumption
theorem t07_vec_Meet : S_vec_op (C07 (F07 n_vec_Meet)) min := by unfold S_vec_op; intros; apply a07_vec_Meet; apply g_vec_Meet (C := C07) (F := F07) t07_vec_both t07_vec_Meet_1 <;> assumption
theorem t07_Frontier : S_mfront (C07 (F07 n_matrix_Matrix_Frontier)) := by unfold S_mfront; intros; apply a07_matrix_Matrix_Frontier; apply g_Frontier (C := C07) (F := F07) t07_vec_Meet <;> assumption
theorem t07_dot_Right : S_dot_Right (C07 (F07 n_dot_Right)) := by unfold S_dot_Right; intros; apply a07_dot_Right; apply g_dot_Right (C := C07) (F := F07)  <;> assumption
theorem t07_vec_Has : S_vec_Has (C07 (F07 n_vec_Has)) := by unfold S_vec_Has; intros; apply a07_vec_Has; apply g_vec_Has (C := C07) (F := F07) t07_dot_Right <;> assumption
theorem t07_Stable : S_mstable (C07 (F07 n_matrix_Matrix_Stable)) := by unfold S_mstable; intros; apply a07_matrix_Matrix_Stable; apply g_Stable (C := C07) (F := F07) t07_Frontier t07_vec_Has <;> assumption
theorem t07_law07_awake : S_yes (C07 (F07 n_plaw07_awake)) := by unfold S_yes; intros; apply a07_plaw07_awake; apply g_law07_awake (C := C07) (F := F07) t07_Learn t07_Frontier t07_Stable <;> assumption
theorem t07_pref05_Join : S_vec_op (C07 (F07 n_pref05_Join)) max := by unfold S_vec_op; intros; apply a07_pref05_Join; apply g_pref05_Join (C := C07) (F := F07)  <;> assumption
theorem t07_pref07_Learn : S_mlearn (C07 (F07 n_pref07_Learn)) := by unfold S_mlearn; intros; apply a07_pref07_Learn; apply g_pref07_Learn (C := C07) (F := F07) t07_pref05_Join <;> assumption
theorem t07_Row : S_mrow (C07 (F07 n_matrix_Matrix_Row)) := by unfold S_mrow; intros; apply a07_matrix_Matrix_Row; apply g_Row (C := C07) (F := F07) t07_replica <;> assumption
theorem t07_pref07_Frontier : S_mfront (C07 (F07 n_pref07_Frontier)) := by unfold S_mfront; intros; apply a07_pref07_Frontier; apply g_pref07_Frontier (C := C07) (F := F07)  <;> assumption
theorem t07_pref04_Right : S_dot_Right (C07 (F07 n_pref04_Right)) := by unfold S_dot_Right; intros; apply a07_pref04_Right; apply g_pref04_Right (C := C07) (F := F07)  <;> assumption
theorem t07_pref05_Has : S_vec_Has (C07 (F07 n_pref05_Has)) := by unfold S_vec_Has; intros; apply a07_pref05_Has; apply g_pref05_Has (C := C07) (F := F07) t07_pref04_Right <;> assumption
theorem t07_pref05_Right : S_vec_Right (C07 (F07 n_pref05_Right)) := by unfold S_vec_Right; intros; apply a07_pref05_Right; apply g_pref05_Right (C := C07) (F := F07)  <;> assumption
theorem t07_right : S_mright (C07 (F07 n_plaw07_right)) := by unfold S_mright; intros; apply a07_plaw07_right; apply g_right (C := C07) (F := F07) t07_pref05_Right <;> assumption
theorem t07_vec_Count : S_vec_Count (C07 (F07 n_vec_Count)) := by unfold S_vec_Count; intros; apply a07_vec_Count; apply g_vec_Count (C := C07) (F := F07)  <;> assumption
theorem t07_Behind : S_mbehind (C07 (F07 n_matrix_Matrix_Behind)) := by unfold S_mbehind; intros; apply a07_matrix_Matrix_Behind; apply g_Behind (C := C07) (F := F07) t07_replica t07_vec_Join t07_vec_Meet t07_vec_Count <;> assumption
theorem t07_pref07_Behind : S_mbehind (C07 (F07 n_pref07_Behind)) := by unfold S_mbehind; intros; apply a07_pref07_Behind; apply g_pref07_Behind (C := C07) (F := F07)  <;> assumption
theorem t07_MatrixTells : S_lawMTells (C07 (F07 n_plaw07_MatrixTells)) := by unfold S_lawMTells; intros; apply a07_plaw07_MatrixTells; apply g_MatrixTells (C := C07) (F := F07) t07_law07_awake t07_Learn t07_pref07_Learn t07_Row t07_Frontier t07_pref07_Frontier t07_Stable t07_pref05_Has t07_right t07_Behind t07_pref07_Behind <;> assumption
theorem t07_matrix_Join : S_mjoin (C07 (F07 n_matrix_Matrix_Join)) := by unfold S_mjoin; intros; apply a07_matrix_Matrix_Join; apply g_matrix_Join (C := C07) (F := F07) t07_Learn <;> assumption
theorem t07_pref05_Within : S_vec_Within (C07 (F07 n_pref05_Within)) := by unfold S_vec_Within; intros; apply a07_pref05_Within; apply g_pref05_Within (C := C07) (F := F07)  <;> assumption
theorem t07_MatrixJoins : S_lawMJoins (C07 (F07 n_plaw07_MatrixJoins)) := by unfold S_lawMJoins; intros; apply a07_plaw07_MatrixJoins; apply g_MatrixJoins (C := C07) (F := F07) t07_law07_awake t07_matrix_Join t07_Row t07_pref05_Join t07_pref05_Within t07_right t07_Behind <;> assumption
end Go.AR
