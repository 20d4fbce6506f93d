import Derived.Test.YtmhhpifepghbbaaG29
import Derived.Test.YtmhhpifepghbbaaG30
import Derived.Test.YtmhhpifepghbbaaG31
import Derived.Test.YtmhhpifepghbbaaG33
import Derived.Test.YtmhhpifepghbbaaG34
import Derived.Test.YtmhhpifepghbbaaG36
import Derived.Test.YtmhhpifepghbbaaG37
set_option linter.all false
/-! The contracts of the seat. Printed by program. -/
namespace Go.AR
open Go Go.Proofs
theorem t16_plaw16_inc : S_inc16 (C16 (F16 n_plaw16_inc)) := by unfold S_inc16; intros; apply a16_plaw16_inc; apply g_plaw16_inc (C := C16) (F := F16)  <;> assumption
theorem t16_slices_BinarySearchFunc_api_Undo_api_Undo_api_Undo : S_bsf C16 (C16 (F16 n_slices_BinarySearchFunc_api_Undo_api_Undo_api_Undo)) := by unfold S_bsf; intros; apply a16_slices_BinarySearchFunc_api_Undo_api_Undo_api_Undo; apply g_slices_BinarySearchFunc_api_Undo_api_Undo_api_Undo (C := C16) (F := F16)  <;> assumption
theorem t16_cmp_isNaN_int : S_isNaN (C16 (F16 n_cmp_isNaN_int)) := by unfold S_isNaN; intros; apply a16_cmp_isNaN_int; apply g_cmp_isNaN_int (C := C16) (F := F16)  <;> assumption
theorem t16_cmp_Compare_int : S_icmp (C16 (F16 n_cmp_Compare_int)) := by unfold S_icmp; intros; apply a16_cmp_Compare_int; apply g_cmp_Compare_int (C := C16) (F := F16) t16_cmp_isNaN_int <;> assumption
theorem t16_cmp_Or_int : S_or2 (C16 (F16 n_cmp_Or_int)) := by unfold S_or2; intros; apply a16_cmp_Or_int; apply g_cmp_Or_int (C := C16) (F := F16)  <;> assumption
theorem t16_dot_Compare : S_dcmp (C16 (F16 n_dot_Compare)) := by unfold S_dcmp; intros; apply a16_dot_Compare; apply g_dot_Compare (C := C16) (F := F16) t16_cmp_Compare_int t16_cmp_Or_int <;> assumption
theorem t16_tally_compare : S_ucmp (C16 (F16 n_tally_compare)) := by unfold S_ucmp; intros; apply a16_tally_compare; apply g_tally_compare (C := C16) (F := F16) t16_dot_Compare <;> assumption
theorem t16_tally_at : S_uAt (C16 (F16 n_tally_at)) := by unfold S_uAt; intros; apply a16_tally_at; apply g_tally_at (C := C16) (F := F16) t16_slices_BinarySearchFunc_api_Undo_api_Undo_api_Undo t16_tally_compare <;> assumption
theorem t16_tally_Get : S_uGet (C16 (F16 n_tally_Get)) := by unfold S_uGet; intros; apply a16_tally_Get; apply g_tally_Get (C := C16) (F := F16) t16_tally_at <;> assumption
theorem t16_tally_Seen : S_uSeen (C16 (F16 n_tally_Seen)) := by unfold S_uSeen; intros; apply a16_tally_Seen; apply g_tally_Seen (C := C16) (F := F16) t16_tally_Get <;> assumption
theorem t16_live_covered : S_cov (C16 (F16 n_live_covered)) := by unfold S_cov; intros; apply a16_live_covered; apply g_live_covered (C := C16) (F := F16) t16_tally_Seen <;> assumption
theorem t16_live_All : S_allL (C16 (F16 n_live_All)) := by unfold S_allL; intros; apply a16_live_All; apply g_live_All (C := C16) (F := F16) t16_live_covered t16_tally_Seen <;> assumption
theorem t16_op_Leaf : S_leaf (C16 (F16 n_op_Leaf)) := by unfold S_leaf; intros; apply a16_op_Leaf; apply g_op_Leaf (C := C16) (F := F16)  <;> assumption
theorem t16_slices_Equal : S_pSame (C16 (F16 n_slices_Equal_string_string)) := by unfold S_pSame; intros; apply a16_slices_Equal_string_string; apply g_slices_Equal (C := C16) (F := F16)  <;> assumption
theorem t16_path_Same : S_pSame (C16 (F16 n_path_Same)) := by unfold S_pSame; intros; apply a16_path_Same; apply g_path_Same (C := C16) (F := F16) t16_slices_Equal <;> assumption
theorem t16_live_At : S_iAt (C16 (F16 n_live_At)) := by unfold S_iAt; intros; apply a16_live_At; apply g_live_At (C := C16) (F := F16) t16_op_Leaf t16_path_Same <;> assumption
theorem t16_total_Sum : S_sum16 (C16 (F16 n_total_Sum)) := by unfold S_sum16; intros; apply a16_total_Sum; apply g_total_Sum (C := C16) (F := F16) t16_live_At <;> assumption
theorem t16_total_Count : S_count16 (C16 (F16 n_total_Count)) := by unfold S_count16; intros; apply a16_total_Count; apply g_total_Count (C := C16) (F := F16) t16_live_At <;> assumption
theorem t16_plaw16_awake : S_yes (C16 (F16 n_plaw16_awake)) := by unfold S_yes; intros; apply a16_plaw16_awake; apply g_plaw16_awake (C := C16) (F := F16) t16_plaw16_inc t16_live_All t16_total_Sum t16_total_Count <;> assumption
theorem t16_pref04_ints : S_icmp (C16 (F16 n_pref04_ints)) := by unfold S_icmp; intros; apply a16_pref04_ints; apply g_pref04_ints (C := C16) (F := F16)  <;> assumption
theorem t16_pref04_Compare : S_dcmp (C16 (F16 n_pref04_Compare)) := by unfold S_dcmp; intros; apply a16_pref04_Compare; apply g_pref04_Compare (C := C16) (F := F16) t16_pref04_ints <;> assumption
theorem t16_pref12_Rises : S_tRises (C16 (F16 n_pref12_Rises)) := by unfold S_tRises; intros; apply a16_pref12_Rises; apply g_pref12_Rises (C := C16) (F := F16) t16_pref04_Compare <;> assumption
theorem t16_pref10_Short : S_pShort (C16 (F16 n_pref10_Short)) := by unfold S_pShort; intros; apply a16_pref10_Short; apply g_pref10_Short (C := C16) (F := F16)  <;> assumption
theorem t16_pref11_Short : S_oShort (C16 (F16 n_pref11_Short)) := by unfold S_oShort; intros; apply a16_pref11_Short; apply g_pref11_Short (C := C16) (F := F16) t16_pref10_Short <;> assumption
theorem t16_pref12_Short : S_tShort (C16 (F16 n_pref12_Short)) := by unfold S_tShort; intros; apply a16_pref12_Short; apply g_pref12_Short (C := C16) (F := F16) t16_pref11_Short <;> assumption
theorem t16_pref04_Right : S_dotOk (C16 (F16 n_pref04_Right)) := by unfold S_dotOk; intros; apply a16_pref04_Right; apply g_pref04_Right (C := C16) (F := F16)  <;> assumption
theorem t16_pref11_Gone : S_oGone (C16 (F16 n_pref11_Gone)) := by unfold S_oGone; intros; apply a16_pref11_Gone; apply g_pref11_Gone (C := C16) (F := F16)  <;> assumption
theorem t16_pref03_Char : S_chr (C16 (F16 n_pref03_Char)) := by unfold S_chr; intros; apply a16_pref03_Char; apply g_pref03_Char (C := C16) (F := F16)  <;> assumption
theorem t16_pref03_Runes : S_runes .i64 (C16 (F16 n_pref03_Runes)) := by unfold S_runes; intros; apply a16_pref03_Runes; apply g_pref03_Runes (C := C16) (F := F16) t16_pref03_Char <;> assumption
theorem t16_pref03_may : S_may .i64 (C16 (F16 n_pref03_may)) := by unfold S_may; intros; apply a16_pref03_may; apply g_pref03_may (C := C16) (F := F16)  <;> assumption
theorem t16_pref03_Right : S_right (C16 (F16 n_pref03_Right)) := by unfold S_right; intros; apply a16_pref03_Right; apply g_pref03_Right (C := C16) (F := F16) t16_pref03_Runes t16_pref03_may <;> assumption
theorem t16_pref10_Check : S_pCheck (C16 (F16 n_pref10_Check)) := by unfold S_pCheck; intros; apply a16_pref10_Check; apply g_pref10_Check (C := C16) (F := F16) t16_pref03_Right <;> assumption
theorem t16_pref09_Right : S_vOk (C16 (F16 n_pref09_Right)) := by unfold S_vOk; intros; apply a16_pref09_Right; apply g_pref09_Right (C := C16) (F := F16) t16_pref03_Runes <;> assumption
theorem t16_pref04_Refs : S_rcmp (C16 (F16 n_pref04_Refs)) := by unfold S_rcmp; intros; apply a16_pref04_Refs; apply g_pref04_Refs (C := C16) (F := F16) t16_pref04_Compare t16_pref04_ints <;> assumption
theorem t16_pref11_Refs : S_refs (C16 (F16 n_pref11_Refs)) := by unfold S_refs; intros; apply a16_pref11_Refs; apply g_pref11_Refs (C := C16) (F := F16) t16_pref04_Right t16_pref04_Refs <;> assumption
theorem t16_pref11_Check : S_oCheck (C16 (F16 n_pref11_Check)) := by unfold S_oCheck; intros; apply a16_pref11_Check; apply g_pref11_Check (C := C16) (F := F16) t16_pref10_Check t16_pref09_Right t16_pref11_Refs <;> assumption
theorem t16_pref12_Check : S_tCheck (C16 (F16 n_pref12_Check)) := by unfold S_tCheck; intros; apply a16_pref12_Check; apply g_pref12_Check (C := C16) (F := F16) t16_pref04_Right t16_pref11_Gone t16_pref11_Check <;> assumption
theorem t16_pref12_Good : S_tGood (C16 (F16 n_pref12_Good)) := by unfold S_tGood; intros; apply a16_pref12_Good; apply g_pref12_Good (C := C16) (F := F16) t16_pref12_Rises t16_pref12_Short t16_pref12_Check <;> assumption
theorem t16_pref08_one : S_uOk (C16 (F16 n_pref08_one)) := by unfold S_uOk; intros; apply a16_pref08_one; apply g_pref08_one (C := C16) (F := F16) t16_pref04_Right <;> assumption
theorem t16_pref08_Right : S_uRight (C16 (F16 n_pref08_Right)) := by unfold S_uRight; intros; apply a16_pref08_Right; apply g_pref08_Right (C := C16) (F := F16) t16_pref08_one t16_pref04_Compare <;> assumption
theorem t16_pref08_Good : S_rGood (C16 (F16 n_pref08_Good)) := by unfold S_rGood; intros; apply a16_pref08_Good; apply g_pref08_Good (C := C16) (F := F16) t16_pref08_Right <;> assumption
theorem t16_plaw13_Good : S_lGood (C16 (F16 n_plaw13_Good)) := by unfold S_lGood; intros; apply a16_plaw13_Good; apply g_plaw13_Good (C := C16) (F := F16) t16_pref12_Good t16_pref08_Good <;> assumption
theorem t16_pref11_CoversR : S_oCovR (C16 (F16 n_pref11_Covers)) := by unfold S_oCovR; intros; apply a16_pref11_Covers; apply g_pref11_CoversR (C := C16) (F := F16)  <;> assumption
theorem t16_pref08_Get : S_rGet (C16 (F16 n_pref08_Get)) := by unfold S_rGet; intros; apply a16_pref08_Get; apply g_pref08_Get (C := C16) (F := F16)  <;> assumption
theorem t16_pref08_Seen : S_rSeen (C16 (F16 n_pref08_Seen)) := by unfold S_rSeen; intros; apply a16_pref08_Seen; apply g_pref08_Seen (C := C16) (F := F16) t16_pref08_Get <;> assumption
theorem t16_pref13_Covered : S_rCov (C16 (F16 n_pref13_Covered)) := by unfold S_rCov; intros; apply a16_pref13_Covered; apply g_pref13_Covered (C := C16) (F := F16) t16_pref11_CoversR t16_pref08_Seen <;> assumption
theorem t16_pref13_All : S_rAllL (C16 (F16 n_pref13_All)) := by unfold S_rAllL; intros; apply a16_pref13_All; apply g_pref13_All (C := C16) (F := F16) t16_pref13_Covered t16_pref08_Seen <;> assumption
theorem t16_pref11_Leaf : S_leaf (C16 (F16 n_pref11_Leaf)) := by unfold S_leaf; intros; apply a16_pref11_Leaf; apply g_pref11_Leaf (C := C16) (F := F16)  <;> assumption
theorem t16_pref09_ints : S_ints (C16 (F16 n_pref09_ints)) := by unfold S_ints; intros; apply a16_pref09_ints; apply g_pref09_ints (C := C16) (F := F16)  <;> assumption
theorem t16_pref09_Texts : S_tcmp (C16 (F16 n_pref09_Texts)) := by unfold S_tcmp; intros; apply a16_pref09_Texts; apply g_pref09_Texts (C := C16) (F := F16) t16_pref09_ints <;> assumption
theorem t16_pref10_Compare : S_pCmp (C16 (F16 n_pref10_Compare)) := by unfold S_pCmp; intros; apply a16_pref10_Compare; apply g_pref10_Compare (C := C16) (F := F16) t16_pref09_Texts <;> assumption
theorem t16_pref13_At : S_iAt (C16 (F16 n_pref13_At)) := by unfold S_iAt; intros; apply a16_pref13_At; apply g_pref13_At (C := C16) (F := F16) t16_pref11_Leaf t16_pref10_Compare <;> assumption
theorem t16_pref16_Parts : S_rparts16 (C16 (F16 n_pref16_Parts)) := by unfold S_rparts16; intros; apply a16_pref16_Parts; apply g_pref16_Parts (C := C16) (F := F16) t16_pref13_At <;> assumption
theorem t16_total_Parts : S_parts16 (C16 (F16 n_total_Parts)) := by unfold S_parts16; intros; apply a16_total_Parts; apply g_total_Parts (C := C16) (F := F16) t16_live_At <;> assumption
theorem t16_TotalTells : S_total (C16 (F16 n_plaw16_TotalTells)) := by unfold S_total; intros; apply a16_plaw16_TotalTells; apply g_TotalTells (C := C16) (F := F16) t16_plaw16_awake t16_plaw13_Good t16_pref10_Short t16_live_All t16_pref13_All t16_pref16_Parts t16_total_Parts t16_total_Sum t16_total_Count <;> assumption
end Go.AR
