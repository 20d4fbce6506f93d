import Derived.Test.YtlhahjlnhkokcaaG27
import Derived.Test.YtlhahjlnhkokcaaG33
import Derived.Test.YtlhahjlnhkokcaaG10
import Derived.Test.YtlhahjlnhkokcaaG09
set_option linter.all false
/-! Nets: the contracts that were walked in the model. -/
namespace Go.AR
open Go Go.Proofs
theorem look31 : F31 n_net_Net_Look = 13 := by kernel_rfl
theorem take31 : F31 n_net_Net_Take = 10 := by kernel_rfl
theorem spoil31 : F31 n_net_Net_Spoil = 9 := by kernel_rfl
theorem t31_Take : S_nTake (C31 (F31 n_net_Net_Take)) := by rw [take31]; exact acall_Take (by have := t31_net_Look; rw [look31] at this; exact this)
theorem t31_Take0 : S_nTake0 (C31 (F31 n_net_Net_Take)) := by rw [take31]; exact acall_Take0 (by have := t31_net_Look0; rw [look31] at this; exact this)
theorem t31_Spoil0 : S_nSpoil0 (C31 (F31 n_net_Net_Spoil)) := by rw [spoil31]; exact acall_Spoil0 (by have := t31_net_Look0; rw [look31] at this; exact this)
theorem clone31 : F31 n_slices_Clone_net_Flight_net_Flight = 16 := by kernel_rfl
theorem t31_Spoil : S_nSpoil (C31 (F31 n_net_Net_Spoil)) := by rw [spoil31]; exact acall_Spoil (by have := t31_net_Look; rw [look31] at this; exact this) (by have := t31_slices_Clone_Flight; rw [clone31] at this; exact this)
end Go.AR

/-! The contracts of the seat. Printed by program. -/
namespace Go.AR
open Go Go.Proofs
theorem t31_net_New : S_nNew (C31 (F31 n_net_New)) := by unfold S_nNew; intros; apply a31_net_New; apply g_net_New (C := C31) (F := F31)  <;> assumption
theorem t31_net_Send : S_nSend (C31 (F31 n_net_Net_Send)) := by unfold S_nSend; intros; apply a31_net_Net_Send; apply g_net_Send (C := C31) (F := F31)  <;> assumption
theorem t31_plaw31_awake : S_yes (C31 (F31 n_plaw31_awake)) := by unfold S_yes; intros; apply a31_plaw31_awake; apply g_plaw31_awake (C := C31) (F := F31) t31_net_New t31_net_Send t31_Take t31_net_Look t31_net_Len <;> assumption
theorem t31_net_Twice : S_nTwice (C31 (F31 n_net_Net_Twice)) := by unfold S_nTwice; intros; apply a31_net_Net_Twice; apply g_net_Twice (C := C31) (F := F31) t31_net_Look t31_net_Send <;> assumption
theorem t31_net_Send0 : S_nSend0 (C31 (F31 n_net_Net_Send)) := by unfold S_nSend0; intros; apply a31_net_Net_Send__nil; apply g_net_Send0 (C := C31) (F := F31)  <;> assumption
theorem t31_net_Twice0 : S_nTwice0 (C31 (F31 n_net_Net_Twice)) := by unfold S_nTwice0; intros; apply a31_net_Net_Twice__nil; apply g_net_Twice0 (C := C31) (F := F31) t31_net_Look0 <;> assumption
theorem t31_NetNone : S_none (C31 (F31 n_plaw31_NetNone)) := by unfold S_none; intros; apply a31_plaw31_NetNone; apply g_NetNone (C := C31) (F := F31) t31_plaw31_awake t31_net_New t31_net_Send t31_net_Twice t31_net_Len t31_Take0 t31_net_Look0 t31_net_Send0 t31_net_Twice0 t31_Spoil0 t31_net_Len0 <;> assumption
theorem t31_NetKeeps : S_keeps (C31 (F31 n_plaw31_NetKeeps)) := by unfold S_keeps; intros; apply a31_plaw31_NetKeeps; apply g_NetKeeps (C := C31) (F := F31) t31_plaw31_awake t31_net_New t31_net_Send t31_Spoil t31_Take t31_net_Len <;> assumption
theorem t31_pref31_Send : S_nSend (C31 (F31 n_pref31_Net_Send)) := by unfold S_nSend; intros; apply a31_pref31_Net_Send; apply g_pref31_Send (C := C31) (F := F31)  <;> assumption
theorem t31_pref31_Is : S_nIs (C31 (F31 n_pref31_Net_Is)) := by unfold S_nIs; intros; apply a31_pref31_Net_Is; apply g_pref31_Is (C := C31) (F := F31)  <;> assumption
theorem t31_pref31_Take : S_nTake (C31 (F31 n_pref31_Net_Take)) := by unfold S_nTake; intros; apply a31_pref31_Net_Take; apply g_pref31_Take (C := C31) (F := F31) t31_pref31_Is <;> assumption
theorem t31_pref31_Twice : S_nTwice (C31 (F31 n_pref31_Net_Twice)) := by unfold S_nTwice; intros; apply a31_pref31_Net_Twice; apply g_pref31_Twice (C := C31) (F := F31) t31_pref31_Is t31_pref31_Send <;> assumption
theorem t31_pref01_Changed : S_changed (C31 (F31 n_pref01_Changed)) := by unfold S_changed; intros; apply a31_pref01_Changed; apply g_pref01_Changed (C := C31) (F := F31)  <;> assumption
theorem t31_pref31_Spoil : S_nSpoil (C31 (F31 n_pref31_Net_Spoil)) := by unfold S_nSpoil; intros; apply a31_pref31_Net_Spoil; apply g_pref31_Spoil (C := C31) (F := F31) t31_pref31_Is t31_pref01_Changed <;> assumption
theorem t31_plaw31_same : S_fSame (C31 (F31 n_plaw31_same)) := by unfold S_fSame; intros; apply a31_plaw31_same; apply g_plaw31_same (C := C31) (F := F31)  <;> assumption
theorem t31_plaw31_does : S_does (C31 (F31 n_plaw31_does)) := by unfold S_does; intros; apply a31_plaw31_does; apply g_plaw31_does (C := C31) (F := F31) t31_net_Send t31_pref31_Send t31_Take t31_pref31_Take t31_net_Twice t31_pref31_Twice t31_Spoil t31_pref31_Spoil t31_net_Look t31_pref31_Is t31_plaw31_same <;> assumption
theorem t31_NetPlays : S_plays (C31 (F31 n_plaw31_NetPlays)) := by unfold S_plays; intros; apply a31_plaw31_NetPlays; apply g_NetPlays (C := C31) (F := F31) t31_plaw31_awake t31_net_New t31_plaw31_does t31_net_Len t31_net_Look t31_plaw31_same <;> assumption
end Go.AR
