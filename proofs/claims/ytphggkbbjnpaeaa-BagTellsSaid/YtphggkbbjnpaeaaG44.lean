import Derived.Test.YtphggkbbjnpaeaaG30
import Derived.Test.YtphggkbbjnpaeaaG32
import Derived.Test.YtphggkbbjnpaeaaG33
import Derived.Test.YtphggkbbjnpaeaaG35
import Derived.Test.YtphggkbbjnpaeaaG36
import Derived.Test.YtphggkbbjnpaeaaG39
import Derived.Test.YtphggkbbjnpaeaaG40
import Derived.Test.YtphggkbbjnpaeaaG41
import Derived.Test.YtphggkbbjnpaeaaG42
import Derived.Test.YtphggkbbjnpaeaaG43
set_option linter.all false
/-! The contracts of the seat. Printed by program. -/
namespace Go.AR
open Go Go.Proofs
theorem t15_plaw15_act : S_act (C15 (F15 n_plaw15_act)) := by unfold S_act; intros; apply a15_plaw15_act; apply g_plaw15_act (C := C15) (F := F15)  <;> assumption
theorem t15_slices_BinarySearchFunc_api_Undo_api_Undo_api_Undo : S_bsf C15 (C15 (F15 n_slices_BinarySearchFunc_api_Undo_api_Undo_api_Undo)) := by unfold S_bsf; intros; apply a15_slices_BinarySearchFunc_api_Undo_api_Undo_api_Undo; apply g_slices_BinarySearchFunc_api_Undo_api_Undo_api_Undo (C := C15) (F := F15)  <;> assumption
theorem t15_cmp_isNaN_int : S_isNaN (C15 (F15 n_cmp_isNaN_int)) := by unfold S_isNaN; intros; apply a15_cmp_isNaN_int; apply g_cmp_isNaN_int (C := C15) (F := F15)  <;> assumption
theorem t15_cmp_Compare_int : S_icmp (C15 (F15 n_cmp_Compare_int)) := by unfold S_icmp; intros; apply a15_cmp_Compare_int; apply g_cmp_Compare_int (C := C15) (F := F15) t15_cmp_isNaN_int <;> assumption
theorem t15_cmp_Or_int : S_or2 (C15 (F15 n_cmp_Or_int)) := by unfold S_or2; intros; apply a15_cmp_Or_int; apply g_cmp_Or_int (C := C15) (F := F15)  <;> assumption
theorem t15_dot_Compare : S_dcmp (C15 (F15 n_dot_Compare)) := by unfold S_dcmp; intros; apply a15_dot_Compare; apply g_dot_Compare (C := C15) (F := F15) t15_cmp_Compare_int t15_cmp_Or_int <;> assumption
theorem t15_tally_compare : S_ucmp (C15 (F15 n_tally_compare)) := by unfold S_ucmp; intros; apply a15_tally_compare; apply g_tally_compare (C := C15) (F := F15) t15_dot_Compare <;> assumption
theorem t15_tally_at : S_uAt (C15 (F15 n_tally_at)) := by unfold S_uAt; intros; apply a15_tally_at; apply g_tally_at (C := C15) (F := F15) t15_slices_BinarySearchFunc_api_Undo_api_Undo_api_Undo t15_tally_compare <;> assumption
theorem t15_tally_Get : S_uGet (C15 (F15 n_tally_Get)) := by unfold S_uGet; intros; apply a15_tally_Get; apply g_tally_Get (C := C15) (F := F15) t15_tally_at <;> assumption
theorem t15_tally_Seen : S_uSeen (C15 (F15 n_tally_Seen)) := by unfold S_uSeen; intros; apply a15_tally_Seen; apply g_tally_Seen (C := C15) (F := F15) t15_tally_Get <;> assumption
theorem t15_live_covered : S_cov (C15 (F15 n_live_covered)) := by unfold S_cov; intros; apply a15_live_covered; apply g_live_covered (C := C15) (F := F15) t15_tally_Seen <;> assumption
theorem t15_live_All : S_allL (C15 (F15 n_live_All)) := by unfold S_allL; intros; apply a15_live_All; apply g_live_All (C := C15) (F := F15) t15_live_covered t15_tally_Seen <;> assumption
theorem t15_op_Leaf : S_leaf (C15 (F15 n_op_Leaf)) := by unfold S_leaf; intros; apply a15_op_Leaf; apply g_op_Leaf (C := C15) (F := F15)  <;> assumption
theorem t15_slices_Equal : S_pSame (C15 (F15 n_slices_Equal_string_string)) := by unfold S_pSame; intros; apply a15_slices_Equal_string_string; apply g_slices_Equal (C := C15) (F := F15)  <;> assumption
theorem t15_path_Same : S_pSame (C15 (F15 n_path_Same)) := by unfold S_pSame; intros; apply a15_path_Same; apply g_path_Same (C := C15) (F := F15) t15_slices_Equal <;> assumption
theorem t15_live_At : S_iAt (C15 (F15 n_live_At)) := by unfold S_iAt; intros; apply a15_live_At; apply g_live_At (C := C15) (F := F15) t15_op_Leaf t15_path_Same <;> assumption
theorem t15_bag_Adds : S_addsL (C15 (F15 n_bag_Adds)) := by unfold S_addsL; intros; apply a15_bag_Adds; apply g_bag_Adds (C := C15) (F := F15) t15_live_At <;> assumption
theorem t15_bag_Has : S_hasB (C15 (F15 n_bag_Has)) := by unfold S_hasB; intros; apply a15_bag_Has; apply g_bag_Has (C := C15) (F := F15) t15_bag_Adds <;> assumption
theorem t15_plaw15_awake : S_yes (C15 (F15 n_plaw15_awake)) := by unfold S_yes; intros; apply a15_plaw15_awake; apply g_plaw15_awake (C := C15) (F := F15) t15_plaw15_act t15_live_All t15_bag_Has <;> assumption
theorem t15_pref04_ints : S_icmp (C15 (F15 n_pref04_ints)) := by unfold S_icmp; intros; apply a15_pref04_ints; apply g_pref04_ints (C := C15) (F := F15)  <;> assumption
theorem t15_pref04_Compare : S_dcmp (C15 (F15 n_pref04_Compare)) := by unfold S_dcmp; intros; apply a15_pref04_Compare; apply g_pref04_Compare (C := C15) (F := F15) t15_pref04_ints <;> assumption
theorem t15_pref12_Rises : S_tRises (C15 (F15 n_pref12_Rises)) := by unfold S_tRises; intros; apply a15_pref12_Rises; apply g_pref12_Rises (C := C15) (F := F15) t15_pref04_Compare <;> assumption
theorem t15_pref10_Short : S_pShort (C15 (F15 n_pref10_Short)) := by unfold S_pShort; intros; apply a15_pref10_Short; apply g_pref10_Short (C := C15) (F := F15)  <;> assumption
theorem t15_pref11_Short : S_oShort (C15 (F15 n_pref11_Short)) := by unfold S_oShort; intros; apply a15_pref11_Short; apply g_pref11_Short (C := C15) (F := F15) t15_pref10_Short <;> assumption
theorem t15_pref12_Short : S_tShort (C15 (F15 n_pref12_Short)) := by unfold S_tShort; intros; apply a15_pref12_Short; apply g_pref12_Short (C := C15) (F := F15) t15_pref11_Short <;> assumption
theorem t15_pref04_Right : S_dotOk (C15 (F15 n_pref04_Right)) := by unfold S_dotOk; intros; apply a15_pref04_Right; apply g_pref04_Right (C := C15) (F := F15)  <;> assumption
theorem t15_pref11_Gone : S_oGone (C15 (F15 n_pref11_Gone)) := by unfold S_oGone; intros; apply a15_pref11_Gone; apply g_pref11_Gone (C := C15) (F := F15)  <;> assumption
theorem t15_pref03_Char : S_chr (C15 (F15 n_pref03_Char)) := by unfold S_chr; intros; apply a15_pref03_Char; apply g_pref03_Char (C := C15) (F := F15)  <;> assumption
theorem t15_pref03_Runes : S_runes .i64 (C15 (F15 n_pref03_Runes)) := by unfold S_runes; intros; apply a15_pref03_Runes; apply g_pref03_Runes (C := C15) (F := F15) t15_pref03_Char <;> assumption
theorem t15_pref03_may : S_may .i64 (C15 (F15 n_pref03_may)) := by unfold S_may; intros; apply a15_pref03_may; apply g_pref03_may (C := C15) (F := F15)  <;> assumption
theorem t15_pref03_Right : S_right (C15 (F15 n_pref03_Right)) := by unfold S_right; intros; apply a15_pref03_Right; apply g_pref03_Right (C := C15) (F := F15) t15_pref03_Runes t15_pref03_may <;> assumption
theorem t15_pref10_Check : S_pCheck (C15 (F15 n_pref10_Check)) := by unfold S_pCheck; intros; apply a15_pref10_Check; apply g_pref10_Check (C := C15) (F := F15) t15_pref03_Right <;> assumption
theorem t15_pref09_Right : S_vOk (C15 (F15 n_pref09_Right)) := by unfold S_vOk; intros; apply a15_pref09_Right; apply g_pref09_Right (C := C15) (F := F15) t15_pref03_Runes <;> assumption
theorem t15_pref04_Refs : S_rcmp (C15 (F15 n_pref04_Refs)) := by unfold S_rcmp; intros; apply a15_pref04_Refs; apply g_pref04_Refs (C := C15) (F := F15) t15_pref04_Compare t15_pref04_ints <;> assumption
theorem t15_pref11_Refs : S_refs (C15 (F15 n_pref11_Refs)) := by unfold S_refs; intros; apply a15_pref11_Refs; apply g_pref11_Refs (C := C15) (F := F15) t15_pref04_Right t15_pref04_Refs <;> assumption
theorem t15_pref11_Check : S_oCheck (C15 (F15 n_pref11_Check)) := by unfold S_oCheck; intros; apply a15_pref11_Check; apply g_pref11_Check (C := C15) (F := F15) t15_pref10_Check t15_pref09_Right t15_pref11_Refs <;> assumption
theorem t15_pref12_Check : S_tCheck (C15 (F15 n_pref12_Check)) := by unfold S_tCheck; intros; apply a15_pref12_Check; apply g_pref12_Check (C := C15) (F := F15) t15_pref04_Right t15_pref11_Gone t15_pref11_Check <;> assumption
theorem t15_pref12_Good : S_tGood (C15 (F15 n_pref12_Good)) := by unfold S_tGood; intros; apply a15_pref12_Good; apply g_pref12_Good (C := C15) (F := F15) t15_pref12_Rises t15_pref12_Short t15_pref12_Check <;> assumption
theorem t15_pref08_one : S_uOk (C15 (F15 n_pref08_one)) := by unfold S_uOk; intros; apply a15_pref08_one; apply g_pref08_one (C := C15) (F := F15) t15_pref04_Right <;> assumption
theorem t15_pref08_Right : S_uRight (C15 (F15 n_pref08_Right)) := by unfold S_uRight; intros; apply a15_pref08_Right; apply g_pref08_Right (C := C15) (F := F15) t15_pref08_one t15_pref04_Compare <;> assumption
theorem t15_pref08_Good : S_rGood (C15 (F15 n_pref08_Good)) := by unfold S_rGood; intros; apply a15_pref08_Good; apply g_pref08_Good (C := C15) (F := F15) t15_pref08_Right <;> assumption
theorem t15_plaw13_Good : S_lGood (C15 (F15 n_plaw13_Good)) := by unfold S_lGood; intros; apply a15_plaw13_Good; apply g_plaw13_Good (C := C15) (F := F15) t15_pref12_Good t15_pref08_Good <;> assumption
theorem t15_pref11_CoversR : S_oCovR (C15 (F15 n_pref11_Covers)) := by unfold S_oCovR; intros; apply a15_pref11_Covers; apply g_pref11_CoversR (C := C15) (F := F15)  <;> assumption
theorem t15_pref08_Get : S_rGet (C15 (F15 n_pref08_Get)) := by unfold S_rGet; intros; apply a15_pref08_Get; apply g_pref08_Get (C := C15) (F := F15)  <;> assumption
theorem t15_pref08_Seen : S_rSeen (C15 (F15 n_pref08_Seen)) := by unfold S_rSeen; intros; apply a15_pref08_Seen; apply g_pref08_Seen (C := C15) (F := F15) t15_pref08_Get <;> assumption
theorem t15_pref13_Covered : S_rCov (C15 (F15 n_pref13_Covered)) := by unfold S_rCov; intros; apply a15_pref13_Covered; apply g_pref13_Covered (C := C15) (F := F15) t15_pref11_CoversR t15_pref08_Seen <;> assumption
theorem t15_pref13_All : S_rAllL (C15 (F15 n_pref13_All)) := by unfold S_rAllL; intros; apply a15_pref13_All; apply g_pref13_All (C := C15) (F := F15) t15_pref13_Covered t15_pref08_Seen <;> assumption
theorem t15_pref11_Leaf : S_leaf (C15 (F15 n_pref11_Leaf)) := by unfold S_leaf; intros; apply a15_pref11_Leaf; apply g_pref11_Leaf (C := C15) (F := F15)  <;> assumption
theorem t15_pref09_ints : S_ints (C15 (F15 n_pref09_ints)) := by unfold S_ints; intros; apply a15_pref09_ints; apply g_pref09_ints (C := C15) (F := F15)  <;> assumption
theorem t15_pref09_Texts : S_tcmp (C15 (F15 n_pref09_Texts)) := by unfold S_tcmp; intros; apply a15_pref09_Texts; apply g_pref09_Texts (C := C15) (F := F15) t15_pref09_ints <;> assumption
theorem t15_pref10_Compare : S_pCmp (C15 (F15 n_pref10_Compare)) := by unfold S_pCmp; intros; apply a15_pref10_Compare; apply g_pref10_Compare (C := C15) (F := F15) t15_pref09_Texts <;> assumption
theorem t15_pref13_At : S_iAt (C15 (F15 n_pref13_At)) := by unfold S_iAt; intros; apply a15_pref13_At; apply g_pref13_At (C := C15) (F := F15) t15_pref11_Leaf t15_pref10_Compare <;> assumption
theorem t15_pref15_Adds : S_addsL (C15 (F15 n_pref15_Adds)) := by unfold S_addsL; intros; apply a15_pref15_Adds; apply g_pref15_Adds (C := C15) (F := F15) t15_pref13_At <;> assumption
theorem t15_slices_BinarySearchFunc_Value : S_vbs C15 (C15 (F15 n_slices_BinarySearchFunc_api_Value_api_Value_api_Value)) := by unfold S_vbs; intros; apply a15_slices_BinarySearchFunc_api_Value_api_Value_api_Value; apply g_slices_BinarySearchFunc_Value (C := C15) (F := F15)  <;> assumption
theorem t15_cmp_Or_int3 : S_or3 (C15 (F15 n_cmp_Or_int)) := by unfold S_or3; intros; apply a15_cmp_Or_int; apply g_cmp_Or_int3 (C := C15) (F := F15)  <;> assumption
theorem t15_value_Compare : S_vcmp (C15 (F15 n_value_Compare)) := by unfold S_vcmp; intros; apply a15_value_Compare; apply g_value_Compare (C := C15) (F := F15) t15_cmp_Compare_int t15_scmp t15_cmp_Or_int3 <;> assumption
theorem t15_bag_Values : S_bagV (C15 (F15 n_bag_Values)) := by unfold S_bagV; intros; apply a15_bag_Values; apply g_bag_Values (C := C15) (F := F15) t15_live_At t15_slices_BinarySearchFunc_Value t15_value_Compare t15_Insert <;> assumption
theorem t15_pref09_Compare : S_vcmpR (C15 (F15 n_pref09_Compare)) := by unfold S_vcmpR; intros; apply a15_pref09_Compare; apply g_pref09_Compare (C := C15) (F := F15) t15_pref09_ints t15_pref09_Texts <;> assumption
theorem t15_pref14_Insert : S_rIns (C15 (F15 n_pref14_Insert)) := by unfold S_rIns; intros; apply a15_pref14_Insert; apply g_pref14_Insert (C := C15) (F := F15) t15_pref09_Compare <;> assumption
theorem t15_pref15_Values : S_bagV (C15 (F15 n_pref15_Values)) := by unfold S_bagV; intros; apply a15_pref15_Values; apply g_pref15_Values (C := C15) (F := F15) t15_pref13_At t15_pref14_Insert <;> assumption
theorem t15_pref09_Same : S_vSame (C15 (F15 n_pref09_Same)) := by unfold S_vSame; intros; apply a15_pref09_Same; apply g_pref09_Same (C := C15) (F := F15)  <;> assumption
theorem t15_pref13_SameRefs : S_rsame (C15 (F15 n_pref13_SameRefs)) := by unfold S_rsame; intros; apply a15_pref13_SameRefs; apply g_pref13_SameRefs (C := C15) (F := F15)  <;> assumption
theorem t15_BagTells : S_bag (C15 (F15 n_plaw15_BagTells)) := by unfold S_bag; intros; apply a15_plaw15_BagTells; apply g_BagTells (C := C15) (F := F15) t15_plaw15_awake t15_plaw13_Good t15_pref10_Short t15_live_All t15_pref13_All t15_pref15_Adds t15_bag_Values t15_pref15_Values t15_pref09_Same t15_bag_Adds t15_pref13_SameRefs t15_bag_Has <;> assumption
end Go.AR
