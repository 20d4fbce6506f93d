import Derived.Test.YtojhbllkhljggaaP08
import Derived.Test.YtojhbllkhljggaaP08b
import Derived.Test.YtojhbllkhljggaaZ08
import Derived.Test.YtojhbllkhljggaaB08
set_option linter.all false
/-! The contracts of the seat. Printed by program. -/
namespace Go.AR
open Go Go.Proofs
theorem t08_dot_Right : S_dotOk (C08 (F08 n_dot_Right)) := by unfold S_dotOk; intros; apply a08_dot_Right; apply g_dot_Right (C := C08) (F := F08)  <;> assumption
theorem t08_slices_BinarySearchFunc_api_Undo_api_Undo_api_Undo : S_bsf C08 (C08 (F08 n_slices_BinarySearchFunc_api_Undo_api_Undo_api_Undo)) := by unfold S_bsf; intros; apply a08_slices_BinarySearchFunc_api_Undo_api_Undo_api_Undo; apply g_slices_BinarySearchFunc_api_Undo_api_Undo_api_Undo (C := C08) (F := F08)  <;> assumption
theorem t08_cmp_isNaN_int : S_isNaN (C08 (F08 n_cmp_isNaN_int)) := by unfold S_isNaN; intros; apply a08_cmp_isNaN_int; apply g_cmp_isNaN_int (C := C08) (F := F08)  <;> assumption
theorem t08_cmp_Compare_int : S_icmp (C08 (F08 n_cmp_Compare_int)) := by unfold S_icmp; intros; apply a08_cmp_Compare_int; apply g_cmp_Compare_int (C := C08) (F := F08) t08_cmp_isNaN_int <;> assumption
theorem t08_cmp_Or_int : S_or2 (C08 (F08 n_cmp_Or_int)) := by unfold S_or2; intros; apply a08_cmp_Or_int; apply g_cmp_Or_int (C := C08) (F := F08)  <;> assumption
theorem t08_dot_Compare : S_dcmp (C08 (F08 n_dot_Compare)) := by unfold S_dcmp; intros; apply a08_dot_Compare; apply g_dot_Compare (C := C08) (F := F08) t08_cmp_Compare_int t08_cmp_Or_int <;> assumption
theorem t08_tally_compare : S_ucmp (C08 (F08 n_tally_compare)) := by unfold S_ucmp; intros; apply a08_tally_compare; apply g_tally_compare (C := C08) (F := F08) t08_dot_Compare <;> assumption
theorem t08_tally_at : S_uAt (C08 (F08 n_tally_at)) := by unfold S_uAt; intros; apply a08_tally_at; apply g_tally_at (C := C08) (F := F08) t08_slices_BinarySearchFunc_api_Undo_api_Undo_api_Undo t08_tally_compare <;> assumption
theorem t08_slices_Clone_api_Undo_api_Undo : S_uClone (C08 (F08 n_slices_Clone_api_Undo_api_Undo)) := by unfold S_uClone; intros; apply a08_slices_Clone_api_Undo_api_Undo; apply g_slices_Clone_api_Undo_api_Undo (C := C08) (F := F08)  <;> assumption
theorem t08_tally_Put : S_uPut (C08 (F08 n_tally_Put)) := by unfold S_uPut; intros; apply a08_tally_Put; apply g_tally_Put (C := C08) (F := F08) t08_dot_Right t08_tally_at t08_slices_Clone_api_Undo_api_Undo t08_Insert <;> assumption
theorem t08_tally_Get : S_uGet (C08 (F08 n_tally_Get)) := by unfold S_uGet; intros; apply a08_tally_Get; apply g_tally_Get (C := C08) (F := F08) t08_tally_at <;> assumption
theorem t08_tally_Raise : S_uRaiseP (C08 (F08 n_tally_Raise)) := by unfold S_uRaiseP; intros; apply a08_tally_Raise; apply g_tally_Raise (C := C08) (F := F08) t08_tally_Get t08_dot_Right <;> assumption
theorem t08_tally_Seen : S_uSeen (C08 (F08 n_tally_Seen)) := by unfold S_uSeen; intros; apply a08_tally_Seen; apply g_tally_Seen (C := C08) (F := F08) t08_tally_Get <;> assumption
theorem t08_plaw08_awake : S_yes (C08 (F08 n_plaw08_awake)) := by unfold S_yes; intros; apply a08_plaw08_awake; apply g_plaw08_awake (C := C08) (F := F08) t08_tally_Put t08_tally_Raise t08_tally_Get t08_tally_Seen <;> assumption
theorem t08_tally_Right : S_uRight (C08 (F08 n_tally_Right)) := by unfold S_uRight; intros; apply a08_tally_Right; apply g_tally_Right (C := C08) (F := F08) t08_dot_Right t08_tally_compare <;> assumption
theorem t08_pref04_Right : S_dotOk (C08 (F08 n_pref04_Right)) := by unfold S_dotOk; intros; apply a08_pref04_Right; apply g_pref04_Right (C := C08) (F := F08)  <;> assumption
theorem t08_pref08_one : S_uOk (C08 (F08 n_pref08_one)) := by unfold S_uOk; intros; apply a08_pref08_one; apply g_pref08_one (C := C08) (F := F08) t08_pref04_Right <;> assumption
theorem t08_pref04_ints : S_icmp (C08 (F08 n_pref04_ints)) := by unfold S_icmp; intros; apply a08_pref04_ints; apply g_pref04_ints (C := C08) (F := F08)  <;> assumption
theorem t08_pref04_Compare : S_dcmp (C08 (F08 n_pref04_Compare)) := by unfold S_dcmp; intros; apply a08_pref04_Compare; apply g_pref04_Compare (C := C08) (F := F08) t08_pref04_ints <;> assumption
theorem t08_pref08_Right : S_uRight (C08 (F08 n_pref08_Right)) := by unfold S_uRight; intros; apply a08_pref08_Right; apply g_pref08_Right (C := C08) (F := F08) t08_pref08_one t08_pref04_Compare <;> assumption
theorem t08_pref08_Get : S_rGet (C08 (F08 n_pref08_Get)) := by unfold S_rGet; intros; apply a08_pref08_Get; apply g_pref08_Get (C := C08) (F := F08)  <;> assumption
theorem t08_pref08_Raise : S_rRaiseP (C08 (F08 n_pref08_Raise)) := by unfold S_rRaiseP; intros; apply a08_pref08_Raise; apply g_pref08_Raise (C := C08) (F := F08) t08_pref08_Get t08_pref04_Right <;> assumption
theorem t08_pref08_Seen : S_rSeen (C08 (F08 n_pref08_Seen)) := by unfold S_rSeen; intros; apply a08_pref08_Seen; apply g_pref08_Seen (C := C08) (F := F08) t08_pref08_Get <;> assumption
theorem t08_pref08_Put : S_rPut (C08 (F08 n_pref08_Put)) := by unfold S_rPut; intros; apply a08_pref08_Put; apply g_pref08_Put (C := C08) (F := F08) t08_pref08_one t08_pref04_Compare t08_pref08_Get <;> assumption
theorem t08_pref08_Same : S_uSame (C08 (F08 n_pref08_Same)) := by unfold S_uSame; intros; apply a08_pref08_Same; apply g_pref08_Same (C := C08) (F := F08)  <;> assumption
theorem t08_plaw08_TallyTells : S_T2 (C08 (F08 n_plaw08_TallyTells)) := by unfold S_T2; intros; apply a08_plaw08_TallyTells; apply g_plaw08_TallyTells (C := C08) (F := F08) t08_plaw08_awake t08_tally_Right t08_pref08_Right t08_tally_Raise t08_pref08_Raise t08_tally_Get t08_pref08_Get t08_tally_Seen t08_pref08_Seen t08_tally_Put t08_pref08_Put t08_pref08_Same <;> assumption
theorem t08_pref08_Good : S_rGood (C08 (F08 n_pref08_Good)) := by unfold S_rGood; intros; apply a08_pref08_Good; apply g_pref08_Good (C := C08) (F := F08) t08_pref08_Right <;> assumption
theorem t08_tally_Join : S_uMerge (C08 (F08 n_tally_Join)) := by unfold S_uMerge; intros; apply a08_tally_Join; apply g_tally_Join (C := C08) (F := F08) t08_tally_compare <;> assumption
theorem t08_tally_Over : S_uOver (C08 (F08 n_tally_Over)) := by unfold S_uOver; intros; apply a08_tally_Over; apply g_tally_Over (C := C08) (F := F08) t08_tally_Get <;> assumption
theorem t08_pref08_Join : S_rJoin (C08 (F08 n_pref08_Join)) := by unfold S_rJoin; intros; apply a08_pref08_Join; apply g_pref08_Join (C := C08) (F := F08) t08_pref08_Put <;> assumption
theorem t08_pref08_Over : S_rOver (C08 (F08 n_pref08_Over)) := by unfold S_rOver; intros; apply a08_pref08_Over; apply g_pref08_Over (C := C08) (F := F08) t08_pref08_Get <;> assumption
theorem t08_slices_Equal_api_Undo_api_Undo : S_uSame (C08 (F08 n_slices_Equal_api_Undo_api_Undo)) := by unfold S_uSame; intros; apply a08_slices_Equal_api_Undo_api_Undo; apply g_slices_Equal_api_Undo_api_Undo (C := C08) (F := F08)  <;> assumption
theorem t08_tally_Same : S_uSame (C08 (F08 n_tally_Same)) := by unfold S_uSame; intros; apply a08_tally_Same; apply g_tally_Same (C := C08) (F := F08) t08_slices_Equal_api_Undo_api_Undo <;> assumption
theorem t08_plaw08_TallyJoins : S_J2 (C08 (F08 n_plaw08_TallyJoins)) := by unfold S_J2; intros; apply a08_plaw08_TallyJoins; apply g_plaw08_TallyJoins (C := C08) (F := F08) t08_plaw08_awake t08_pref08_Good t08_pref08_Right t08_tally_Join t08_tally_Over t08_pref08_Join t08_pref08_Over t08_pref08_Same t08_tally_Same <;> assumption
theorem t08_plaw08_TallyLattice : S_J3 (C08 (F08 n_plaw08_TallyLattice)) := by unfold S_J3; intros; apply a08_plaw08_TallyLattice; apply g_plaw08_TallyLattice (C := C08) (F := F08) t08_plaw08_awake t08_pref08_Good t08_tally_Join t08_tally_Same <;> assumption
theorem t08_plaw08_TallyDeltas : S_D3 (C08 (F08 n_plaw08_TallyDeltas)) := by unfold S_D3; intros; apply a08_plaw08_TallyDeltas; apply g_plaw08_TallyDeltas (C := C08) (F := F08) t08_plaw08_awake t08_pref08_Good t08_tally_Join t08_tally_Over t08_tally_Same t08_tally_Get <;> assumption
theorem t08_plaw08_TallyTurns : S_U3 (C08 (F08 n_plaw08_TallyTurns)) := by unfold S_U3; intros; apply a08_plaw08_TallyTurns; apply g_plaw08_TallyTurns (C := C08) (F := F08) t08_plaw08_awake t08_pref08_Good t08_pref04_Right t08_tally_Raise t08_tally_Get t08_tally_Put t08_tally_Seen <;> assumption
end Go.AR
