import Derived.Test.YtlhahjlnhkokcaaG25
import Derived.Test.YtlhahjlnhkokcaaG30
import Derived.Test.YtlhahjlnhkokcaaG08
set_option linter.all false
/-! Nets: the contracts that were walked in the model. -/
namespace Go.AR
open Go Go.Proofs
theorem look31 : F31 n_net_Net_Look = 13 := by kernel_rfl
theorem take31 : F31 n_net_Net_Take = 10 := by kernel_rfl
theorem spoil31 : F31 n_net_Net_Spoil = 9 := by kernel_rfl
theorem t31_Take : S_nTake (C31 (F31 n_net_Net_Take)) := by rw [take31]; exact acall_Take (by have := t31_net_Look; rw [look31] at this; exact this)
theorem t31_Take0 : S_nTake0 (C31 (F31 n_net_Net_Take)) := by rw [take31]; exact acall_Take0 (by have := t31_net_Look0; rw [look31] at this; exact this)
theorem t31_Spoil0 : S_nSpoil0 (C31 (F31 n_net_Net_Spoil)) := by rw [spoil31]; exact acall_Spoil0 (by have := t31_net_Look0; rw [look31] at this; exact this)
end Go.AR

/-! The contracts of the seat. Printed by program. -/
namespace Go.AR
open Go Go.Proofs
theorem t31_net_New : S_nNew (C31 (F31 n_net_New)) := by unfold S_nNew; intros; apply a31_net_New; apply g_net_New (C := C31) (F := F31)  <;> assumption
theorem t31_net_Send : S_nSend (C31 (F31 n_net_Net_Send)) := by unfold S_nSend; intros; apply a31_net_Net_Send; apply g_net_Send (C := C31) (F := F31)  <;> assumption
theorem t31_plaw31_awake : S_yes (C31 (F31 n_plaw31_awake)) := by unfold S_yes; intros; apply a31_plaw31_awake; apply g_plaw31_awake (C := C31) (F := F31) t31_net_New t31_net_Send t31_Take t31_net_Look t31_net_Len <;> assumption
theorem t31_net_Twice : S_nTwice (C31 (F31 n_net_Net_Twice)) := by unfold S_nTwice; intros; apply a31_net_Net_Twice; apply g_net_Twice (C := C31) (F := F31) t31_net_Look t31_net_Send <;> assumption
theorem t31_net_Send0 : S_nSend0 (C31 (F31 n_net_Net_Send)) := by unfold S_nSend0; intros; apply a31_net_Net_Send__nil; apply g_net_Send0 (C := C31) (F := F31)  <;> assumption
theorem t31_net_Twice0 : S_nTwice0 (C31 (F31 n_net_Net_Twice)) := by unfold S_nTwice0; intros; apply a31_net_Net_Twice__nil; apply g_net_Twice0 (C := C31) (F := F31) t31_net_Look0 <;> assumption
theorem t31_NetNone : S_none (C31 (F31 n_plaw31_NetNone)) := by unfold S_none; intros; apply a31_plaw31_NetNone; apply g_NetNone (C := C31) (F := F31) t31_plaw31_awake t31_net_New t31_net_Send t31_net_Twice t31_net_Len t31_Take0 t31_net_Look0 t31_net_Send0 t31_net_Twice0 t31_Spoil0 t31_net_Len0 <;> assumption
end Go.AR
