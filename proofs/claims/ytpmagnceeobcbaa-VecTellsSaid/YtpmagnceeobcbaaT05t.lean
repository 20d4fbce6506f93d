import Derived.Test.YtpmagnceeobcbaaP05t
import Derived.Test.YtpmagnceeobcbaaZ05t
import Derived.Test.YtpmagnceeobcbaaB05
set_option linter.all false
/-! The contracts of the seat. Printed by program. -/
namespace Go.AR
open Go Go.Proofs
theorem t05_vec_both : S_vec_both C05 (C05 (F05 n_vec_both)) := by unfold S_vec_both; intros; apply a05_vec_both; apply g_vec_both (C := C05) (F := F05)  <;> assumption
theorem t05_vec_Join_1 : S_fun2 (C05 (F05 n_vec_Join_1)) max := by unfold S_fun2; intros; apply a05_vec_Join_1; apply g_vec_Join_1 (C := C05) (F := F05)  <;> assumption
theorem t05_vec_Join : S_vec_op (C05 (F05 n_vec_Join)) max := by unfold S_vec_op; intros; apply a05_vec_Join; apply g_vec_Join (C := C05) (F := F05) t05_vec_both t05_vec_Join_1 <;> assumption
theorem t05_dot_Right : S_dot_Right (C05 (F05 n_dot_Right)) := by unfold S_dot_Right; intros; apply a05_dot_Right; apply g_dot_Right (C := C05) (F := F05)  <;> assumption
theorem t05_vec_Has : S_vec_Has (C05 (F05 n_vec_Has)) := by unfold S_vec_Has; intros; apply a05_vec_Has; apply g_vec_Has (C := C05) (F := F05) t05_dot_Right <;> assumption
theorem t05_law05_awake : S_yes (C05 (F05 n_plaw05_awake)) := by unfold S_yes; intros; apply a05_plaw05_awake; apply g_law05_awake (C := C05) (F := F05) t05_vec_Join t05_vec_Has <;> assumption
theorem t05_vec_Right : S_vec_Right (C05 (F05 n_vec_Right)) := by unfold S_vec_Right; intros; apply a05_vec_Right; apply g_vec_Right (C := C05) (F := F05)  <;> assumption
theorem t05_pref05_Right : S_vec_Right (C05 (F05 n_pref05_Right)) := by unfold S_vec_Right; intros; apply a05_pref05_Right; apply g_pref05_Right (C := C05) (F := F05)  <;> assumption
theorem t05_pref04_Right : S_dot_Right (C05 (F05 n_pref04_Right)) := by unfold S_dot_Right; intros; apply a05_pref04_Right; apply g_pref04_Right (C := C05) (F := F05)  <;> assumption
theorem t05_pref05_Has : S_vec_Has (C05 (F05 n_pref05_Has)) := by unfold S_vec_Has; intros; apply a05_pref05_Has; apply g_pref05_Has (C := C05) (F := F05) t05_pref04_Right <;> assumption
theorem t05_pref05_Join : S_vec_op (C05 (F05 n_pref05_Join)) max := by unfold S_vec_op; intros; apply a05_pref05_Join; apply g_pref05_Join (C := C05) (F := F05)  <;> assumption
theorem t05_vec_Meet_1 : S_fun2 (C05 (F05 n_vec_Meet_1)) min := by unfold S_fun2; intros; apply a05_vec_Meet_1; apply g_vec_Meet_1 (C := C05) (F := F05)  <;> assumption
theorem t05_vec_Meet : S_vec_op (C05 (F05 n_vec_Meet)) min := by unfold S_vec_op; intros; apply a05_vec_Meet; apply g_vec_Meet (C := C05) (F := F05) t05_vec_both t05_vec_Meet_1 <;> assumption
theorem t05_pref05_Meet : S_vec_op (C05 (F05 n_pref05_Meet)) min := by unfold S_vec_op; intros; apply a05_pref05_Meet; apply g_pref05_Meet (C := C05) (F := F05)  <;> assumption
theorem t05_vec_Within : S_vec_Within (C05 (F05 n_vec_Within)) := by unfold S_vec_Within; intros; apply a05_vec_Within; apply g_vec_Within (C := C05) (F := F05) t05_vec_Meet <;> assumption
theorem t05_pref05_Within : S_vec_Within (C05 (F05 n_pref05_Within)) := by unfold S_vec_Within; intros; apply a05_pref05_Within; apply g_pref05_Within (C := C05) (F := F05)  <;> assumption
theorem t05_WriteByte : S_WriteByte (F05 n_T_strings_Builder) (F05 n_T_uint8) (C05 (F05 n_strings_Builder_WriteByte)) := by unfold S_WriteByte; intros; apply a05_strings_Builder_WriteByte; apply g_WriteByte (C := C05) (F := F05) t05_copyCheck <;> assumption
theorem t05_pack_Int : S_i2s (C05 (F05 n_pack_Int)) := by unfold S_i2s; intros; apply a05_pack_Int; apply g_pack_Int (C := C05) (F := F05) t05_WriteByte t05_BString <;> assumption
theorem t05_vec_Code : S_vec_Code (C05 (F05 n_vec_Code)) := by unfold S_vec_Code; intros; apply a05_vec_Code; apply g_vec_Code (C := C05) (F := F05) t05_pack_Int <;> assumption
theorem t05_pref02_Int : S_i2s (C05 (F05 n_pref02_Int)) := rec_pref02_Int (C := C05) (F := F05) (fun _ _ _ h => a05_pref02_Int h) 
theorem t05_pref05_Code : S_vec_Code (C05 (F05 n_pref05_Code)) := by unfold S_vec_Code; intros; apply a05_pref05_Code; apply g_pref05_Code (C := C05) (F := F05) t05_pref02_Int <;> assumption
theorem t05_vec_Count : S_vec_Count (C05 (F05 n_vec_Count)) := by unfold S_vec_Count; intros; apply a05_vec_Count; apply g_vec_Count (C := C05) (F := F05)  <;> assumption
theorem t05_pref05_Count : S_vec_Count (C05 (F05 n_pref05_Count)) := by unfold S_vec_Count; intros; apply a05_pref05_Count; apply g_pref05_Count (C := C05) (F := F05)  <;> assumption
theorem t05_VecTells : S_lawVecTells (C05 (F05 n_plaw05_VecTells)) := by unfold S_lawVecTells; intros; apply a05_plaw05_VecTells; apply g_VecTells (C := C05) (F := F05) t05_law05_awake t05_vec_Right t05_pref05_Right t05_vec_Has t05_pref05_Has t05_vec_Join t05_pref05_Join t05_vec_Meet t05_pref05_Meet t05_vec_Within t05_pref05_Within t05_vec_Code t05_pref05_Code t05_vec_Count t05_pref05_Count <;> assumption
end Go.AR
