import Derived.Test.YtillphnjhefioaaG30
import Derived.Test.YtillphnjhefioaaG32
import Derived.Test.YtillphnjhefioaaG34
import Derived.Test.YtillphnjhefioaaG36
import Derived.Test.YtillphnjhefioaaG37
import Derived.Test.YtillphnjhefioaaG38
import Derived.Test.YtillphnjhefioaaG40
import Derived.Test.YtillphnjhefioaaG41
import Derived.Test.YtillphnjhefioaaG42
import Derived.Test.YtillphnjhefioaaG43
set_option linter.all false
/-! The contracts of the seat. Printed by program. -/
namespace Go.AR
open Go Go.Proofs
theorem t13_plaw13_put : S_put13 (C13 (F13 n_plaw13_put)) := by unfold S_put13; intros; apply a13_plaw13_put; apply g_plaw13_put (C := C13) (F := F13)  <;> assumption
theorem t13_slices_BinarySearchFunc_api_Undo_api_Undo_api_Undo : S_bsf C13 (C13 (F13 n_slices_BinarySearchFunc_api_Undo_api_Undo_api_Undo)) := by unfold S_bsf; intros; apply a13_slices_BinarySearchFunc_api_Undo_api_Undo_api_Undo; apply g_slices_BinarySearchFunc_api_Undo_api_Undo_api_Undo (C := C13) (F := F13)  <;> assumption
theorem t13_cmp_isNaN_int : S_isNaN (C13 (F13 n_cmp_isNaN_int)) := by unfold S_isNaN; intros; apply a13_cmp_isNaN_int; apply g_cmp_isNaN_int (C := C13) (F := F13)  <;> assumption
theorem t13_cmp_Compare_int : S_icmp (C13 (F13 n_cmp_Compare_int)) := by unfold S_icmp; intros; apply a13_cmp_Compare_int; apply g_cmp_Compare_int (C := C13) (F := F13) t13_cmp_isNaN_int <;> assumption
theorem t13_cmp_Or_int : S_or2 (C13 (F13 n_cmp_Or_int)) := by unfold S_or2; intros; apply a13_cmp_Or_int; apply g_cmp_Or_int (C := C13) (F := F13)  <;> assumption
theorem t13_dot_Compare : S_dcmp (C13 (F13 n_dot_Compare)) := by unfold S_dcmp; intros; apply a13_dot_Compare; apply g_dot_Compare (C := C13) (F := F13) t13_cmp_Compare_int t13_cmp_Or_int <;> assumption
theorem t13_tally_compare : S_ucmp (C13 (F13 n_tally_compare)) := by unfold S_ucmp; intros; apply a13_tally_compare; apply g_tally_compare (C := C13) (F := F13) t13_dot_Compare <;> assumption
theorem t13_tally_at : S_uAt (C13 (F13 n_tally_at)) := by unfold S_uAt; intros; apply a13_tally_at; apply g_tally_at (C := C13) (F := F13) t13_slices_BinarySearchFunc_api_Undo_api_Undo_api_Undo t13_tally_compare <;> assumption
theorem t13_tally_Get : S_uGet (C13 (F13 n_tally_Get)) := by unfold S_uGet; intros; apply a13_tally_Get; apply g_tally_Get (C := C13) (F := F13) t13_tally_at <;> assumption
theorem t13_tally_Seen : S_uSeen (C13 (F13 n_tally_Seen)) := by unfold S_uSeen; intros; apply a13_tally_Seen; apply g_tally_Seen (C := C13) (F := F13) t13_tally_Get <;> assumption
theorem t13_live_covered : S_cov (C13 (F13 n_live_covered)) := by unfold S_cov; intros; apply a13_live_covered; apply g_live_covered (C := C13) (F := F13) t13_tally_Seen <;> assumption
theorem t13_live_All : S_allL (C13 (F13 n_live_All)) := by unfold S_allL; intros; apply a13_live_All; apply g_live_All (C := C13) (F := F13) t13_live_covered t13_tally_Seen <;> assumption
theorem t13_plaw13_awake : S_yes (C13 (F13 n_plaw13_awake)) := by unfold S_yes; intros; apply a13_plaw13_awake; apply g_plaw13_awake (C := C13) (F := F13) t13_plaw13_put t13_live_All <;> assumption
theorem t13_pref04_ints : S_icmp (C13 (F13 n_pref04_ints)) := by unfold S_icmp; intros; apply a13_pref04_ints; apply g_pref04_ints (C := C13) (F := F13)  <;> assumption
theorem t13_pref04_Compare : S_dcmp (C13 (F13 n_pref04_Compare)) := by unfold S_dcmp; intros; apply a13_pref04_Compare; apply g_pref04_Compare (C := C13) (F := F13) t13_pref04_ints <;> assumption
theorem t13_pref12_Rises : S_tRises (C13 (F13 n_pref12_Rises)) := by unfold S_tRises; intros; apply a13_pref12_Rises; apply g_pref12_Rises (C := C13) (F := F13) t13_pref04_Compare <;> assumption
theorem t13_pref10_Short : S_pShort (C13 (F13 n_pref10_Short)) := by unfold S_pShort; intros; apply a13_pref10_Short; apply g_pref10_Short (C := C13) (F := F13)  <;> assumption
theorem t13_pref11_Short : S_oShort (C13 (F13 n_pref11_Short)) := by unfold S_oShort; intros; apply a13_pref11_Short; apply g_pref11_Short (C := C13) (F := F13) t13_pref10_Short <;> assumption
theorem t13_pref12_Short : S_tShort (C13 (F13 n_pref12_Short)) := by unfold S_tShort; intros; apply a13_pref12_Short; apply g_pref12_Short (C := C13) (F := F13) t13_pref11_Short <;> assumption
theorem t13_pref04_Right : S_dotOk (C13 (F13 n_pref04_Right)) := by unfold S_dotOk; intros; apply a13_pref04_Right; apply g_pref04_Right (C := C13) (F := F13)  <;> assumption
theorem t13_pref11_Gone : S_oGone (C13 (F13 n_pref11_Gone)) := by unfold S_oGone; intros; apply a13_pref11_Gone; apply g_pref11_Gone (C := C13) (F := F13)  <;> assumption
theorem t13_pref03_Char : S_chr (C13 (F13 n_pref03_Char)) := by unfold S_chr; intros; apply a13_pref03_Char; apply g_pref03_Char (C := C13) (F := F13)  <;> assumption
theorem t13_pref03_Runes : S_runes .i64 (C13 (F13 n_pref03_Runes)) := by unfold S_runes; intros; apply a13_pref03_Runes; apply g_pref03_Runes (C := C13) (F := F13) t13_pref03_Char <;> assumption
theorem t13_pref03_may : S_may .i64 (C13 (F13 n_pref03_may)) := by unfold S_may; intros; apply a13_pref03_may; apply g_pref03_may (C := C13) (F := F13)  <;> assumption
theorem t13_pref03_Right : S_right (C13 (F13 n_pref03_Right)) := by unfold S_right; intros; apply a13_pref03_Right; apply g_pref03_Right (C := C13) (F := F13) t13_pref03_Runes t13_pref03_may <;> assumption
theorem t13_pref10_Check : S_pCheck (C13 (F13 n_pref10_Check)) := by unfold S_pCheck; intros; apply a13_pref10_Check; apply g_pref10_Check (C := C13) (F := F13) t13_pref03_Right <;> assumption
theorem t13_pref09_Right : S_vOk (C13 (F13 n_pref09_Right)) := by unfold S_vOk; intros; apply a13_pref09_Right; apply g_pref09_Right (C := C13) (F := F13) t13_pref03_Runes <;> assumption
theorem t13_pref04_Refs : S_rcmp (C13 (F13 n_pref04_Refs)) := by unfold S_rcmp; intros; apply a13_pref04_Refs; apply g_pref04_Refs (C := C13) (F := F13) t13_pref04_Compare t13_pref04_ints <;> assumption
theorem t13_pref11_Refs : S_refs (C13 (F13 n_pref11_Refs)) := by unfold S_refs; intros; apply a13_pref11_Refs; apply g_pref11_Refs (C := C13) (F := F13) t13_pref04_Right t13_pref04_Refs <;> assumption
theorem t13_pref11_Check : S_oCheck (C13 (F13 n_pref11_Check)) := by unfold S_oCheck; intros; apply a13_pref11_Check; apply g_pref11_Check (C := C13) (F := F13) t13_pref10_Check t13_pref09_Right t13_pref11_Refs <;> assumption
theorem t13_pref12_Check : S_tCheck (C13 (F13 n_pref12_Check)) := by unfold S_tCheck; intros; apply a13_pref12_Check; apply g_pref12_Check (C := C13) (F := F13) t13_pref04_Right t13_pref11_Gone t13_pref11_Check <;> assumption
theorem t13_pref12_Good : S_tGood (C13 (F13 n_pref12_Good)) := by unfold S_tGood; intros; apply a13_pref12_Good; apply g_pref12_Good (C := C13) (F := F13) t13_pref12_Rises t13_pref12_Short t13_pref12_Check <;> assumption
theorem t13_pref08_one : S_uOk (C13 (F13 n_pref08_one)) := by unfold S_uOk; intros; apply a13_pref08_one; apply g_pref08_one (C := C13) (F := F13) t13_pref04_Right <;> assumption
theorem t13_pref08_Right : S_uRight (C13 (F13 n_pref08_Right)) := by unfold S_uRight; intros; apply a13_pref08_Right; apply g_pref08_Right (C := C13) (F := F13) t13_pref08_one t13_pref04_Compare <;> assumption
theorem t13_pref08_Good : S_rGood (C13 (F13 n_pref08_Good)) := by unfold S_rGood; intros; apply a13_pref08_Good; apply g_pref08_Good (C := C13) (F := F13) t13_pref08_Right <;> assumption
theorem t13_plaw13_Good : S_lGood (C13 (F13 n_plaw13_Good)) := by unfold S_lGood; intros; apply a13_plaw13_Good; apply g_plaw13_Good (C := C13) (F := F13) t13_pref12_Good t13_pref08_Good <;> assumption
theorem t13_pref11_CoversR : S_oCovR (C13 (F13 n_pref11_Covers)) := by unfold S_oCovR; intros; apply a13_pref11_Covers; apply g_pref11_CoversR (C := C13) (F := F13)  <;> assumption
theorem t13_pref08_Get : S_rGet (C13 (F13 n_pref08_Get)) := by unfold S_rGet; intros; apply a13_pref08_Get; apply g_pref08_Get (C := C13) (F := F13)  <;> assumption
theorem t13_pref08_Seen : S_rSeen (C13 (F13 n_pref08_Seen)) := by unfold S_rSeen; intros; apply a13_pref08_Seen; apply g_pref08_Seen (C := C13) (F := F13) t13_pref08_Get <;> assumption
theorem t13_pref13_Covered : S_rCov (C13 (F13 n_pref13_Covered)) := by unfold S_rCov; intros; apply a13_pref13_Covered; apply g_pref13_Covered (C := C13) (F := F13) t13_pref11_CoversR t13_pref08_Seen <;> assumption
theorem t13_pref13_All : S_rAllL (C13 (F13 n_pref13_All)) := by unfold S_rAllL; intros; apply a13_pref13_All; apply g_pref13_All (C := C13) (F := F13) t13_pref13_Covered t13_pref08_Seen <;> assumption
theorem t13_pref03_Same : S_xSame (C13 (F13 n_pref03_Same)) := by unfold S_xSame; intros; apply a13_pref03_Same; apply g_pref03_Same (C := C13) (F := F13)  <;> assumption
theorem t13_pref11_Same : S_oSame (C13 (F13 n_pref11_Same)) := by unfold S_oSame; intros; apply a13_pref11_Same; apply g_pref11_Same (C := C13) (F := F13) t13_pref03_Same <;> assumption
theorem t13_plaw13_Same : S_iSame (C13 (F13 n_plaw13_Same)) := by unfold S_iSame; intros; apply a13_plaw13_Same; apply g_plaw13_Same (C := C13) (F := F13) t13_pref11_Same <;> assumption
theorem t13_op_Leaf : S_leaf (C13 (F13 n_op_Leaf)) := by unfold S_leaf; intros; apply a13_op_Leaf; apply g_op_Leaf (C := C13) (F := F13)  <;> assumption
theorem t13_slices_Equal : S_pSame (C13 (F13 n_slices_Equal_string_string)) := by unfold S_pSame; intros; apply a13_slices_Equal_string_string; apply g_slices_Equal (C := C13) (F := F13)  <;> assumption
theorem t13_path_Same : S_pSame (C13 (F13 n_path_Same)) := by unfold S_pSame; intros; apply a13_path_Same; apply g_path_Same (C := C13) (F := F13) t13_slices_Equal <;> assumption
theorem t13_live_At : S_iAt (C13 (F13 n_live_At)) := by unfold S_iAt; intros; apply a13_live_At; apply g_live_At (C := C13) (F := F13) t13_op_Leaf t13_path_Same <;> assumption
theorem t13_pref11_Leaf : S_leaf (C13 (F13 n_pref11_Leaf)) := by unfold S_leaf; intros; apply a13_pref11_Leaf; apply g_pref11_Leaf (C := C13) (F := F13)  <;> assumption
theorem t13_pref09_ints : S_ints (C13 (F13 n_pref09_ints)) := by unfold S_ints; intros; apply a13_pref09_ints; apply g_pref09_ints (C := C13) (F := F13)  <;> assumption
theorem t13_pref09_Texts : S_tcmp (C13 (F13 n_pref09_Texts)) := by unfold S_tcmp; intros; apply a13_pref09_Texts; apply g_pref09_Texts (C := C13) (F := F13) t13_pref09_ints <;> assumption
theorem t13_pref10_Compare : S_pCmp (C13 (F13 n_pref10_Compare)) := by unfold S_pCmp; intros; apply a13_pref10_Compare; apply g_pref10_Compare (C := C13) (F := F13) t13_pref09_Texts <;> assumption
theorem t13_pref13_At : S_iAt (C13 (F13 n_pref13_At)) := by unfold S_iAt; intros; apply a13_pref13_At; apply g_pref13_At (C := C13) (F := F13) t13_pref11_Leaf t13_pref10_Compare <;> assumption
theorem t13_path_Under : S_under (C13 (F13 n_path_Under)) := by unfold S_under; intros; apply a13_path_Under; apply g_path_Under (C := C13) (F := F13) t13_slices_Equal <;> assumption
theorem t13_live_Under : S_iUnder (C13 (F13 n_live_Under)) := by unfold S_iUnder; intros; apply a13_live_Under; apply g_live_Under (C := C13) (F := F13) t13_path_Under <;> assumption
theorem t13_pref10_Under : S_under (C13 (F13 n_pref10_Under)) := by unfold S_under; intros; apply a13_pref10_Under; apply g_pref10_Under (C := C13) (F := F13)  <;> assumption
theorem t13_pref13_Under : S_iUnder (C13 (F13 n_pref13_Under)) := by unfold S_iUnder; intros; apply a13_pref13_Under; apply g_pref13_Under (C := C13) (F := F13) t13_pref10_Under <;> assumption
theorem t13_live_Refs : S_iRefs (C13 (F13 n_live_Refs)) := by unfold S_iRefs; intros; apply a13_live_Refs; apply g_live_Refs (C := C13) (F := F13)  <;> assumption
theorem t13_pref13_Refs : S_iRefs (C13 (F13 n_pref13_Refs)) := by unfold S_iRefs; intros; apply a13_pref13_Refs; apply g_pref13_Refs (C := C13) (F := F13)  <;> assumption
theorem t13_pref13_SameRefs : S_rsame (C13 (F13 n_pref13_SameRefs)) := by unfold S_rsame; intros; apply a13_pref13_SameRefs; apply g_pref13_SameRefs (C := C13) (F := F13)  <;> assumption
theorem t13_slices_EqualFunc_Item : S_isEq C13 (C13 (F13 n_slices_EqualFunc_live_Item_live_Item_live_Item_live_Item)) := by unfold S_isEq; intros; apply a13_slices_EqualFunc_live_Item_live_Item_live_Item_live_Item; apply g_slices_EqualFunc_Item (C := C13) (F := F13)  <;> assumption
theorem t13_slices_Equal_api_Ref : S_rsame (C13 (F13 n_slices_Equal_api_Ref_api_Ref)) := by unfold S_rsame; intros; apply a13_slices_Equal_api_Ref_api_Ref; apply g_slices_Equal_api_Ref (C := C13) (F := F13)  <;> assumption
theorem t13_op_Same : S_oSame (C13 (F13 n_op_Same)) := by unfold S_oSame; intros; apply a13_op_Same; apply g_op_Same (C := C13) (F := F13) t13_slices_Equal t13_slices_Equal_api_Ref <;> assumption
theorem t13_live_Same_1 : S_iOne (C13 (F13 n_live_Same_1)) := by unfold S_iOne; intros; apply a13_live_Same_1; apply g_live_Same_1 (C := C13) (F := F13) t13_op_Same <;> assumption
theorem t13_live_Same : S_iSame (C13 (F13 n_live_Same)) := by unfold S_iSame; intros; apply a13_live_Same; apply g_live_Same (C := C13) (F := F13) t13_slices_EqualFunc_Item t13_live_Same_1 <;> assumption
theorem t13_LiveTells : S_lTells (C13 (F13 n_plaw13_LiveTells)) := by unfold S_lTells; intros; apply a13_plaw13_LiveTells; apply g_LiveTells (C := C13) (F := F13) t13_plaw13_awake t13_plaw13_Good t13_pref10_Short t13_live_All t13_pref13_All t13_plaw13_Same t13_live_At t13_pref13_At t13_live_Under t13_pref13_Under t13_live_Refs t13_pref13_Refs t13_pref13_SameRefs t13_live_Same <;> assumption
theorem t13_LiveUndone : S_lUndone (C13 (F13 n_plaw13_LiveUndone)) := by unfold S_lUndone; intros; apply a13_plaw13_LiveUndone; apply g_LiveUndone (C := C13) (F := F13) t13_plaw13_awake t13_plaw13_Good t13_pref08_Seen t13_live_All t13_live_Same <;> assumption
theorem t13_dot_Right : S_dotOk (C13 (F13 n_dot_Right)) := by unfold S_dotOk; intros; apply a13_dot_Right; apply g_dot_Right (C := C13) (F := F13)  <;> assumption
theorem t13_tally_Raise : S_uRaiseP (C13 (F13 n_tally_Raise)) := by unfold S_uRaiseP; intros; apply a13_tally_Raise; apply g_tally_Raise (C := C13) (F := F13) t13_tally_Get t13_dot_Right <;> assumption
theorem t13_slices_Clone_api_Undo_api_Undo : S_uClone (C13 (F13 n_slices_Clone_api_Undo_api_Undo)) := by unfold S_uClone; intros; apply a13_slices_Clone_api_Undo_api_Undo; apply g_slices_Clone_api_Undo_api_Undo (C := C13) (F := F13)  <;> assumption
theorem t13_tally_Put : S_uPut (C13 (F13 n_tally_Put)) := by unfold S_uPut; intros; apply a13_tally_Put; apply g_tally_Put (C := C13) (F := F13) t13_dot_Right t13_tally_at t13_slices_Clone_api_Undo_api_Undo t13_InsertU <;> assumption
theorem t13_LiveTwice : S_lTwice (C13 (F13 n_plaw13_LiveTwice)) := by unfold S_lTwice; intros; apply a13_plaw13_LiveTwice; apply g_LiveTwice (C := C13) (F := F13) t13_plaw13_awake t13_plaw13_Good t13_tally_Raise t13_tally_Put t13_live_All t13_live_Same <;> assumption
theorem t13_pref12_Find : S_tFind (C13 (F13 n_pref12_Find)) := by unfold S_tFind; intros; apply a13_pref12_Find; apply g_pref12_Find (C := C13) (F := F13)  <;> assumption
theorem t13_plaw13_has : S_iHas (C13 (F13 n_plaw13_has)) := by unfold S_iHas; intros; apply a13_plaw13_has; apply g_plaw13_has (C := C13) (F := F13)  <;> assumption
theorem t13_LiveAgain : S_lUndone (C13 (F13 n_plaw13_LiveAgain)) := by unfold S_lUndone; intros; apply a13_plaw13_LiveAgain; apply g_LiveAgain (C := C13) (F := F13) t13_plaw13_awake t13_plaw13_Good t13_pref08_Seen t13_pref12_Find t13_live_All t13_pref13_Covered t13_plaw13_has <;> assumption
theorem t13_slices_BinarySearchFunc_Txn : S_tbs C13 (C13 (F13 n_slices_BinarySearchFunc_api_Txn_api_Txn_api_Dot)) := by unfold S_tbs; intros; apply a13_slices_BinarySearchFunc_api_Txn_api_Txn_api_Dot; apply g_slices_BinarySearchFunc_Txn (C := C13) (F := F13)  <;> assumption
theorem t13_txn_Put_1 : S_tdcmp (C13 (F13 n_txn_Put_1)) := by unfold S_tdcmp; intros; apply a13_txn_Put_1; apply g_txn_Put_1 (C := C13) (F := F13) t13_dot_Compare <;> assumption
theorem t13_slices_Clone_Txn : S_tClone (C13 (F13 n_slices_Clone_api_Txn_api_Txn)) := by unfold S_tClone; intros; apply a13_slices_Clone_api_Txn_api_Txn; apply g_slices_Clone_Txn (C := C13) (F := F13)  <;> assumption
theorem t13_txn_Put : S_tPut (C13 (F13 n_txn_Put)) := by unfold S_tPut; intros; apply a13_txn_Put; apply g_txn_Put (C := C13) (F := F13) t13_slices_BinarySearchFunc_Txn t13_txn_Put_1 t13_slices_Clone_Txn t13_Insert <;> assumption
theorem t13_live_With : S_tWith (C13 (F13 n_live_With)) := by unfold S_tWith; intros; apply a13_live_With; apply g_live_With (C := C13) (F := F13) t13_txn_Put <;> assumption
theorem t13_LiveWith : S_lWith (C13 (F13 n_plaw13_LiveWith)) := by unfold S_lWith; intros; apply a13_plaw13_LiveWith; apply g_LiveWith (C := C13) (F := F13) t13_plaw13_awake t13_plaw13_Good t13_pref12_Short t13_pref12_Check t13_pref12_Find t13_live_All t13_live_With t13_plaw13_has <;> assumption
end Go.AR
