import Derived.Test.YtkankogmljifiaaDoorG32
import Derived.Test.YtkankogmljifiaaDoorG33
import Derived.Test.YtkankogmljifiaaDoorG34
import Derived.Test.YtkankogmljifiaaDoorG35
import Derived.Test.YtkankogmljifiaaDoorG36
import Derived.Test.YtkankogmljifiaaDoorG38
import Derived.Test.YtkankogmljifiaaDoorG40
import Derived.Test.YtkankogmljifiaaDoorG41
import Derived.Test.YtkankogmljifiaaDoorG42
import Derived.Test.YtkankogmljifiaaDoorG39
import Derived.Test.YtkankogmljifiaaDoorG25
import Derived.Test.YtkankogmljifiaaDoorG03
import Derived.Test.YtkankogmljifiaaDoorG08
import Derived.Test.YtkankogmljifiaaDoorG43
import Derived.Shelf.Lays
import Derived.Shelf.RegionOpenPlain
import Derived.Lib.Strings
import Derived.Lib.Slices
import Derived.Lib.Walk
import Derived.Lib.Builder
import Derived.Lib.AppendStr
import Derived.Lib.UnsafeStr
import Derived.WalkKit
import Derived.Laws.Externs
import Derived.Laws.IdiomCopy
import Derived.Laws.BitsLemmas
set_option linter.all false
/-! The contracts of the seat. Printed by program. -/
namespace Go.AR
open Go Go.Proofs
theorem t12_plaw12_one : S_one (C12 (F12 n_plaw12_one)) := by unfold S_one; intros; apply a12_plaw12_one; apply g_plaw12_one (C := C12) (F := F12)  <;> assumption
theorem t12_dot_Right : S_dotOk (C12 (F12 n_dot_Right)) := by unfold S_dotOk; intros; apply a12_dot_Right; apply g_dot_Right (C := C12) (F := F12)  <;> assumption
theorem t12_op_Gone : S_oGone (C12 (F12 n_op_Gone)) := by unfold S_oGone; intros; apply a12_op_Gone; apply g_op_Gone (C := C12) (F := F12)  <;> assumption
theorem t12_slices_IndexFunc : S_idxF C12 (C12 (F12 n_slices_IndexFunc_string_string)) := by unfold S_idxF; intros; apply a12_slices_IndexFunc_string_string; apply g_slices_IndexFunc (C := C12) (F := F12)  <;> assumption
theorem t12_slices_ContainsFunc : S_conF C12 (C12 (F12 n_slices_ContainsFunc_string_string)) := by unfold S_conF; intros; apply a12_slices_ContainsFunc_string_string; apply g_slices_ContainsFunc (C := C12) (F := F12) t12_slices_IndexFunc <;> assumption
theorem t12_utf8_Decode : S_dec (C12 (F12 n_unicode_utf8_DecodeRuneInString)) := by unfold S_dec; intros; apply a12_unicode_utf8_DecodeRuneInString; apply g_utf8_Decode (C := C12) (F := F12) t12_slow <;> assumption
theorem t12_name_Runes : S_runes .i32 (C12 (F12 n_name_Runes)) := by unfold S_runes; intros; apply a12_name_Runes; apply g_name_Runes (C := C12) (F := F12) t12_utf8_Decode <;> assumption
theorem t12_name_may : S_may .i32 (C12 (F12 n_name_may)) := by unfold S_may; intros; apply a12_name_may; apply g_name_may (C := C12) (F := F12)  <;> assumption
theorem t12_name_Right : S_right (C12 (F12 n_name_Right)) := by unfold S_right; intros; apply a12_name_Right; apply g_name_Right (C := C12) (F := F12) t12_name_Runes t12_name_may <;> assumption
theorem t12_path_Check_1 : S_notRight (C12 (F12 n_path_Check_1)) := by unfold S_notRight; intros; apply a12_path_Check_1; apply g_path_Check_1 (C := C12) (F := F12) t12_name_Right <;> assumption
theorem t12_path_Check : S_pCheck (C12 (F12 n_path_Check)) := by unfold S_pCheck; intros; apply a12_path_Check; apply g_path_Check (C := C12) (F := F12) t12_slices_ContainsFunc t12_path_Check_1 <;> assumption
theorem t12_value_Right : S_vOk (C12 (F12 n_value_Right)) := by unfold S_vOk; intros; apply a12_value_Right; apply g_value_Right (C := C12) (F := F12) t12_name_Runes <;> assumption
theorem t12_op_valued : S_oVal (C12 (F12 n_op_valued)) := by unfold S_oVal; intros; apply a12_op_valued; apply g_op_valued (C := C12) (F := F12) t12_value_Right <;> assumption
theorem t12_op_amount : S_oAm (C12 (F12 n_op_amount)) := by unfold S_oAm; intros; apply a12_op_amount; apply g_op_amount (C := C12) (F := F12)  <;> assumption
theorem t12_cmp_isNaN_int : S_isNaN (C12 (F12 n_cmp_isNaN_int)) := by unfold S_isNaN; intros; apply a12_cmp_isNaN_int; apply g_cmp_isNaN_int (C := C12) (F := F12)  <;> assumption
theorem t12_cmp_Compare_int : S_icmp (C12 (F12 n_cmp_Compare_int)) := by unfold S_icmp; intros; apply a12_cmp_Compare_int; apply g_cmp_Compare_int (C := C12) (F := F12) t12_cmp_isNaN_int <;> assumption
theorem t12_cmp_Or_int : S_or2 (C12 (F12 n_cmp_Or_int)) := by unfold S_or2; intros; apply a12_cmp_Or_int; apply g_cmp_Or_int (C := C12) (F := F12)  <;> assumption
theorem t12_dot_Compare : S_dcmp (C12 (F12 n_dot_Compare)) := by unfold S_dcmp; intros; apply a12_dot_Compare; apply g_dot_Compare (C := C12) (F := F12) t12_cmp_Compare_int t12_cmp_Or_int <;> assumption
theorem t12_dot_Refs : S_rcmp (C12 (F12 n_dot_Refs)) := by unfold S_rcmp; intros; apply a12_dot_Refs; apply g_dot_Refs (C := C12) (F := F12) t12_dot_Compare t12_cmp_Compare_int t12_cmp_Or_int <;> assumption
theorem t12_op_Refs : S_refs (C12 (F12 n_op_Refs)) := by unfold S_refs; intros; apply a12_op_Refs; apply g_op_Refs (C := C12) (F := F12) t12_dot_Right t12_dot_Refs <;> assumption
theorem t12_op_Check : S_oCheck (C12 (F12 n_op_Check)) := by unfold S_oCheck; intros; apply a12_op_Check; apply g_op_Check (C := C12) (F := F12) t12_path_Check t12_op_valued t12_op_amount t12_op_Refs <;> assumption
theorem t12_txn_Check : S_tCheck (C12 (F12 n_txn_Check)) := by unfold S_tCheck; intros; apply a12_txn_Check; apply g_txn_Check (C := C12) (F := F12) t12_dot_Right t12_op_Gone t12_op_Check <;> assumption
theorem t12_txn_Compare : S_tCmp (C12 (F12 n_txn_Compare)) := by unfold S_tCmp; intros; apply a12_txn_Compare; apply g_txn_Compare (C := C12) (F := F12) t12_cmp_Compare_int t12_dot_Compare t12_cmp_Or_int <;> assumption
theorem t12_slices_BinarySearchFunc_Txn : S_tbs C12 (C12 (F12 n_slices_BinarySearchFunc_api_Txn_api_Txn_api_Dot)) := by unfold S_tbs; intros; apply a12_slices_BinarySearchFunc_api_Txn_api_Txn_api_Dot; apply g_slices_BinarySearchFunc_Txn (C := C12) (F := F12)  <;> assumption
theorem t12_txn_Find_1 : S_tdcmp (C12 (F12 n_txn_Find_1)) := by unfold S_tdcmp; intros; apply a12_txn_Find_1; apply g_txn_Find_1 (C := C12) (F := F12) t12_dot_Compare <;> assumption
theorem t12_txn_Find : S_tFind (C12 (F12 n_txn_Find)) := by unfold S_tFind; intros; apply a12_txn_Find; apply g_txn_Find (C := C12) (F := F12) t12_slices_BinarySearchFunc_Txn t12_txn_Find_1 <;> assumption
theorem t12_slices_EqualFunc : S_opsEq C12 (C12 (F12 n_slices_EqualFunc_api_Op_api_Op_api_Op_api_Op)) := by unfold S_opsEq; intros; apply a12_slices_EqualFunc_api_Op_api_Op_api_Op_api_Op; apply g_slices_EqualFunc (C := C12) (F := F12)  <;> assumption
theorem t12_slices_Equal : S_pSame (C12 (F12 n_slices_Equal_string_string)) := by unfold S_pSame; intros; apply a12_slices_Equal_string_string; apply g_slices_Equal (C := C12) (F := F12)  <;> assumption
theorem t12_slices_Equal_api_Ref : S_rsame (C12 (F12 n_slices_Equal_api_Ref_api_Ref)) := by unfold S_rsame; intros; apply a12_slices_Equal_api_Ref_api_Ref; apply g_slices_Equal_api_Ref (C := C12) (F := F12)  <;> assumption
theorem t12_op_Same : S_oSame (C12 (F12 n_op_Same)) := by unfold S_oSame; intros; apply a12_op_Same; apply g_op_Same (C := C12) (F := F12) t12_slices_Equal t12_slices_Equal_api_Ref <;> assumption
theorem t12_txn_Same : S_tSame (C12 (F12 n_txn_Same)) := by unfold S_tSame; intros; apply a12_txn_Same; apply g_txn_Same (C := C12) (F := F12) t12_slices_EqualFunc t12_op_Same <;> assumption
theorem t12_plaw12_awake : S_yes (C12 (F12 n_plaw12_awake)) := by unfold S_yes; intros; apply a12_plaw12_awake; apply g_plaw12_awake (C := C12) (F := F12) t12_plaw12_one t12_txn_Check t12_txn_Compare t12_txn_Find t12_txn_Same <;> assumption
theorem t12_pref04_Right : S_dotOk (C12 (F12 n_pref04_Right)) := by unfold S_dotOk; intros; apply a12_pref04_Right; apply g_pref04_Right (C := C12) (F := F12)  <;> assumption
theorem t12_pref11_Gone : S_oGone (C12 (F12 n_pref11_Gone)) := by unfold S_oGone; intros; apply a12_pref11_Gone; apply g_pref11_Gone (C := C12) (F := F12)  <;> assumption
theorem t12_pref03_Char : S_chr (C12 (F12 n_pref03_Char)) := by unfold S_chr; intros; apply a12_pref03_Char; apply g_pref03_Char (C := C12) (F := F12)  <;> assumption
theorem t12_pref03_Runes : S_runes .i64 (C12 (F12 n_pref03_Runes)) := by unfold S_runes; intros; apply a12_pref03_Runes; apply g_pref03_Runes (C := C12) (F := F12) t12_pref03_Char <;> assumption
theorem t12_pref03_may : S_may .i64 (C12 (F12 n_pref03_may)) := by unfold S_may; intros; apply a12_pref03_may; apply g_pref03_may (C := C12) (F := F12)  <;> assumption
theorem t12_pref03_Right : S_right (C12 (F12 n_pref03_Right)) := by unfold S_right; intros; apply a12_pref03_Right; apply g_pref03_Right (C := C12) (F := F12) t12_pref03_Runes t12_pref03_may <;> assumption
theorem t12_pref10_Check : S_pCheck (C12 (F12 n_pref10_Check)) := by unfold S_pCheck; intros; apply a12_pref10_Check; apply g_pref10_Check (C := C12) (F := F12) t12_pref03_Right <;> assumption
theorem t12_pref09_Right : S_vOk (C12 (F12 n_pref09_Right)) := by unfold S_vOk; intros; apply a12_pref09_Right; apply g_pref09_Right (C := C12) (F := F12) t12_pref03_Runes <;> assumption
theorem t12_pref04_ints : S_icmp (C12 (F12 n_pref04_ints)) := by unfold S_icmp; intros; apply a12_pref04_ints; apply g_pref04_ints (C := C12) (F := F12)  <;> assumption
theorem t12_pref04_Compare : S_dcmp (C12 (F12 n_pref04_Compare)) := by unfold S_dcmp; intros; apply a12_pref04_Compare; apply g_pref04_Compare (C := C12) (F := F12) t12_pref04_ints <;> assumption
theorem t12_pref04_Refs : S_rcmp (C12 (F12 n_pref04_Refs)) := by unfold S_rcmp; intros; apply a12_pref04_Refs; apply g_pref04_Refs (C := C12) (F := F12) t12_pref04_Compare t12_pref04_ints <;> assumption
theorem t12_pref11_Refs : S_refs (C12 (F12 n_pref11_Refs)) := by unfold S_refs; intros; apply a12_pref11_Refs; apply g_pref11_Refs (C := C12) (F := F12) t12_pref04_Right t12_pref04_Refs <;> assumption
theorem t12_pref11_Check : S_oCheck (C12 (F12 n_pref11_Check)) := by unfold S_oCheck; intros; apply a12_pref11_Check; apply g_pref11_Check (C := C12) (F := F12) t12_pref10_Check t12_pref09_Right t12_pref11_Refs <;> assumption
theorem t12_pref12_Check : S_tCheck (C12 (F12 n_pref12_Check)) := by unfold S_tCheck; intros; apply a12_pref12_Check; apply g_pref12_Check (C := C12) (F := F12) t12_pref04_Right t12_pref11_Gone t12_pref11_Check <;> assumption
theorem t12_pref03_Same : S_xSame (C12 (F12 n_pref03_Same)) := by unfold S_xSame; intros; apply a12_pref03_Same; apply g_pref03_Same (C := C12) (F := F12)  <;> assumption
theorem t12_pref11_Same : S_oSame (C12 (F12 n_pref11_Same)) := by unfold S_oSame; intros; apply a12_pref11_Same; apply g_pref11_Same (C := C12) (F := F12) t12_pref03_Same <;> assumption
theorem t12_pref12_Same : S_tSame (C12 (F12 n_pref12_Same)) := by unfold S_tSame; intros; apply a12_pref12_Same; apply g_pref12_Same (C := C12) (F := F12) t12_pref11_Same <;> assumption
theorem t12_txn_Rises : S_tRises (C12 (F12 n_txn_Rises)) := by unfold S_tRises; intros; apply a12_txn_Rises; apply g_txn_Rises (C := C12) (F := F12) t12_dot_Compare <;> assumption
theorem t12_pref12_Rises : S_tRises (C12 (F12 n_pref12_Rises)) := by unfold S_tRises; intros; apply a12_pref12_Rises; apply g_pref12_Rises (C := C12) (F := F12) t12_pref04_Compare <;> assumption
theorem t12_pref12_All : S_tAll (C12 (F12 n_pref12_All)) := by unfold S_tAll; intros; apply a12_pref12_All; apply g_pref12_All (C := C12) (F := F12) t12_pref12_Same <;> assumption
theorem t12_Open : S_Open (C12 (F12 n_pack_Open)) := by unfold S_Open; intros; apply a12_pack_Open; apply g_Open (C := C12) (F := F12)  <;> assumption
theorem t12_fine : S_fine (C12 (F12 n_pack_Reader_fine)) := by unfold S_fine; intros; apply a12_pack_Reader_fine; apply g_fine (C := C12) (F := F12)  <;> assumption
theorem t12_Fail : S_Fail (C12 (F12 n_pack_Reader_Fail)) := by unfold S_Fail; intros; apply a12_pack_Reader_Fail; apply g_Fail (C := C12) (F := F12) t12_fine <;> assumption
theorem t12_rInt : S_rInt (C12 (F12 n_pack_Reader_Int)) := by unfold S_rInt; intros; apply a12_pack_Reader_Int; apply g_rInt (C := C12) (F := F12) t12_fine t12_Fail <;> assumption
theorem t12_Fault : S_Fault (C12 (F12 n_pack_Reader_Fault)) := by unfold S_Fault; intros; apply a12_pack_Reader_Fault; apply g_Fault (C := C12) (F := F12)  <;> assumption
theorem t12_dot_Read : S_dRead (C12 (F12 n_dot_Read)) := by unfold S_dRead; intros; apply a12_dot_Read; apply g_dot_Read (C := C12) (F := F12) t12_rInt t12_Fault t12_dot_Right t12_Fail <;> assumption
theorem t12_rMany : S_rMany (C12 (F12 n_pack_Reader_Many)) := by unfold S_rMany; intros; apply a12_pack_Reader_Many; apply g_rMany (C := C12) (F := F12) t12_rInt t12_fine t12_Fail <;> assumption
theorem t12_rText : S_rText (C12 (F12 n_pack_Reader_Text)) := by unfold S_rText; intros; apply a12_pack_Reader_Text; apply g_rText (C := C12) (F := F12) t12_rInt t12_fine t12_Fail <;> assumption
theorem t12_path_Read : S_pRead (C12 (F12 n_path_Read)) := by unfold S_pRead; intros; apply a12_path_Read; apply g_path_Read (C := C12) (F := F12) t12_rMany t12_rText t12_Fault t12_path_Check t12_Fail <;> assumption
theorem t12_value_Unfold : S_unfold (C12 (F12 n_value_Unfold)) := by unfold S_unfold; intros; apply a12_value_Unfold; apply g_value_Unfold (C := C12) (F := F12)  <;> assumption
theorem t12_value_Read : S_vRead (C12 (F12 n_value_Read)) := by unfold S_vRead; intros; apply a12_value_Read; apply g_value_Read (C := C12) (F := F12) t12_rInt t12_rText t12_value_Unfold t12_Fault t12_value_Right t12_Fail <;> assumption
theorem t12_op_seen : S_seen (C12 (F12 n_op_seen)) := by unfold S_seen; intros; apply a12_op_seen; apply g_op_seen (C := C12) (F := F12) t12_rMany t12_dot_Read t12_rInt <;> assumption
theorem t12_op_Read : S_oRead (C12 (F12 n_op_Read)) := by unfold S_oRead; intros; apply a12_op_Read; apply g_op_Read (C := C12) (F := F12) t12_rInt t12_path_Read t12_value_Unfold t12_value_Read t12_op_seen t12_Fault t12_op_Check t12_Fail <;> assumption
theorem t12_txn_Read : S_tRead (C12 (F12 n_txn_Read)) := by unfold S_tRead; intros; apply a12_txn_Read; apply g_txn_Read (C := C12) (F := F12) t12_dot_Read t12_rInt t12_Fault t12_Fail t12_rMany t12_op_Read t12_txn_Check <;> assumption
theorem t12_XInt : S_XInt (C12 (F12 n_pref02_Reader_Int)) := by unfold S_XInt; intros; apply a12_pref02_Reader_Int; apply g_XInt (C := C12) (F := F12)  <;> assumption
theorem t12_pref04_Read : S_XDot (C12 (F12 n_pref04_Read)) := by unfold S_XDot; intros; apply a12_pref04_Read; apply g_pref04_Read (C := C12) (F := F12) t12_XInt t12_pref04_Right <;> assumption
theorem t12_XFail : S_XFail (C12 (F12 n_pref02_Reader_Fail)) := by unfold S_XFail; intros; apply a12_pref02_Reader_Fail; apply g_XFail (C := C12) (F := F12)  <;> assumption
theorem t12_XMany : S_XMany (C12 (F12 n_pref02_Reader_Many)) := by unfold S_XMany; intros; apply a12_pref02_Reader_Many; apply g_XMany (C := C12) (F := F12) t12_XInt <;> assumption
theorem t12_XText : S_XText (C12 (F12 n_pref02_Reader_Text)) := by unfold S_XText; intros; apply a12_pref02_Reader_Text; apply g_XText (C := C12) (F := F12) t12_XInt <;> assumption
theorem t12_pref10_Read : S_XPath (C12 (F12 n_pref10_Read)) := by unfold S_XPath; intros; apply a12_pref10_Read; apply g_pref10_Read (C := C12) (F := F12) t12_XMany t12_XText t12_pref10_Check t12_XFail <;> assumption
theorem t12_pref09_Unfold : S_unfold (C12 (F12 n_pref09_Unfold)) := by unfold S_unfold; intros; apply a12_pref09_Unfold; apply g_pref09_Unfold (C := C12) (F := F12)  <;> assumption
theorem t12_pref09_Read : S_XVal (C12 (F12 n_pref09_Read)) := by unfold S_XVal; intros; apply a12_pref09_Read; apply g_pref09_Read (C := C12) (F := F12) t12_XInt t12_XText t12_pref09_Unfold t12_pref09_Right <;> assumption
theorem t12_pref11_Read : S_XOp (C12 (F12 n_pref11_Read)) := by unfold S_XOp; intros; apply a12_pref11_Read; apply g_pref11_Read (C := C12) (F := F12) t12_XInt t12_pref10_Read t12_pref09_Unfold t12_pref09_Read t12_XMany t12_pref04_Read t12_pref11_Check t12_XFail <;> assumption
theorem t12_pref12_Read : S_XTx (C12 (F12 n_pref12_Read)) := by unfold S_XTx; intros; apply a12_pref12_Read; apply g_pref12_Read (C := C12) (F := F12) t12_pref04_Read t12_XInt t12_XFail t12_XMany t12_pref11_Read t12_pref12_Check <;> assumption
theorem t12_Left : S_Left (C12 (F12 n_pack_Reader_Left)) := by unfold S_Left; intros; apply a12_pack_Reader_Left; apply g_Left (C := C12) (F := F12) t12_fine <;> assumption
theorem t12_XLeft : S_XLeft (C12 (F12 n_pref02_Reader_Left)) := by unfold S_XLeft; intros; apply a12_pref02_Reader_Left; apply g_XLeft (C := C12) (F := F12)  <;> assumption
theorem t12_txn_ReadList : S_tsRead (C12 (F12 n_txn_ReadList)) := by unfold S_tsRead; intros; apply a12_txn_ReadList; apply g_txn_ReadList (C := C12) (F := F12) t12_rMany t12_txn_Read t12_Fault t12_txn_Rises t12_Fail <;> assumption
theorem t12_pref12_ReadList : S_XTxs (C12 (F12 n_pref12_ReadList)) := by unfold S_XTxs; intros; apply a12_pref12_ReadList; apply g_pref12_ReadList (C := C12) (F := F12) t12_XMany t12_pref12_Read t12_pref12_Rises <;> assumption
theorem t12_TxnReads : S_tReads (C12 (F12 n_plaw12_TxnReads)) := by unfold S_tReads; intros; apply a12_plaw12_TxnReads; apply g_TxnReads (C := C12) (F := F12) t12_plaw12_awake t12_Open t12_txn_Read t12_pref12_Read t12_pref12_Same t12_Fault t12_Left t12_XLeft t12_txn_ReadList t12_pref12_ReadList t12_pref12_All <;> assumption
end Go.AR
