import Derived.Test.YtkankogmljifiaaDoorG32
import Derived.Test.YtkankogmljifiaaDoorG33
import Derived.Test.YtkankogmljifiaaDoorG34
import Derived.Test.YtkankogmljifiaaDoorG35
import Derived.Test.YtkankogmljifiaaDoorG37
import Derived.Test.YtkankogmljifiaaDoorG38
import Derived.Test.YtkankogmljifiaaDoorG40
import Derived.Test.YtkankogmljifiaaDoorG41
import Derived.Test.YtkankogmljifiaaDoorG42
import Derived.Test.YtkankogmljifiaaDoorG39
import Derived.Test.YtkankogmljifiaaDoorG43
import Derived.Test.YtkankogmljifiaaDoorG44
set_option linter.all false
/-! The contracts of the seat. Printed by program. -/
namespace Go.AR
open Go Go.Proofs
theorem t12_plaw12_one : S_one (C12 (F12 n_plaw12_one)) := by unfold S_one; intros; apply a12_plaw12_one; apply g_plaw12_one (C := C12) (F := F12)  <;> assumption
theorem t12_dot_Right : S_dotOk (C12 (F12 n_dot_Right)) := by unfold S_dotOk; intros; apply a12_dot_Right; apply g_dot_Right (C := C12) (F := F12)  <;> assumption
theorem t12_op_Gone : S_oGone (C12 (F12 n_op_Gone)) := by unfold S_oGone; intros; apply a12_op_Gone; apply g_op_Gone (C := C12) (F := F12)  <;> assumption
theorem t12_slices_IndexFunc : S_idxF C12 (C12 (F12 n_slices_IndexFunc_string_string)) := by unfold S_idxF; intros; apply a12_slices_IndexFunc_string_string; apply g_slices_IndexFunc (C := C12) (F := F12)  <;> assumption
theorem t12_slices_ContainsFunc : S_conF C12 (C12 (F12 n_slices_ContainsFunc_string_string)) := by unfold S_conF; intros; apply a12_slices_ContainsFunc_string_string; apply g_slices_ContainsFunc (C := C12) (F := F12) t12_slices_IndexFunc <;> assumption
theorem t12_utf8_Decode : S_dec (C12 (F12 n_unicode_utf8_DecodeRuneInString)) := by unfold S_dec; intros; apply a12_unicode_utf8_DecodeRuneInString; apply g_utf8_Decode (C := C12) (F := F12) t12_slow <;> assumption
theorem t12_name_Runes : S_runes .i32 (C12 (F12 n_name_Runes)) := by unfold S_runes; intros; apply a12_name_Runes; apply g_name_Runes (C := C12) (F := F12) t12_utf8_Decode <;> assumption
theorem t12_name_may : S_may .i32 (C12 (F12 n_name_may)) := by unfold S_may; intros; apply a12_name_may; apply g_name_may (C := C12) (F := F12)  <;> assumption
theorem t12_name_Right : S_right (C12 (F12 n_name_Right)) := by unfold S_right; intros; apply a12_name_Right; apply g_name_Right (C := C12) (F := F12) t12_name_Runes t12_name_may <;> assumption
theorem t12_path_Check_1 : S_notRight (C12 (F12 n_path_Check_1)) := by unfold S_notRight; intros; apply a12_path_Check_1; apply g_path_Check_1 (C := C12) (F := F12) t12_name_Right <;> assumption
theorem t12_path_Check : S_pCheck (C12 (F12 n_path_Check)) := by unfold S_pCheck; intros; apply a12_path_Check; apply g_path_Check (C := C12) (F := F12) t12_slices_ContainsFunc t12_path_Check_1 <;> assumption
theorem t12_value_Right : S_vOk (C12 (F12 n_value_Right)) := by unfold S_vOk; intros; apply a12_value_Right; apply g_value_Right (C := C12) (F := F12) t12_name_Runes <;> assumption
theorem t12_op_valued : S_oVal (C12 (F12 n_op_valued)) := by unfold S_oVal; intros; apply a12_op_valued; apply g_op_valued (C := C12) (F := F12) t12_value_Right <;> assumption
theorem t12_op_amount : S_oAm (C12 (F12 n_op_amount)) := by unfold S_oAm; intros; apply a12_op_amount; apply g_op_amount (C := C12) (F := F12)  <;> assumption
theorem t12_cmp_isNaN_int : S_isNaN (C12 (F12 n_cmp_isNaN_int)) := by unfold S_isNaN; intros; apply a12_cmp_isNaN_int; apply g_cmp_isNaN_int (C := C12) (F := F12)  <;> assumption
theorem t12_cmp_Compare_int : S_icmp (C12 (F12 n_cmp_Compare_int)) := by unfold S_icmp; intros; apply a12_cmp_Compare_int; apply g_cmp_Compare_int (C := C12) (F := F12) t12_cmp_isNaN_int <;> assumption
theorem t12_cmp_Or_int : S_or2 (C12 (F12 n_cmp_Or_int)) := by unfold S_or2; intros; apply a12_cmp_Or_int; apply g_cmp_Or_int (C := C12) (F := F12)  <;> assumption
theorem t12_dot_Compare : S_dcmp (C12 (F12 n_dot_Compare)) := by unfold S_dcmp; intros; apply a12_dot_Compare; apply g_dot_Compare (C := C12) (F := F12) t12_cmp_Compare_int t12_cmp_Or_int <;> assumption
theorem t12_dot_Refs : S_rcmp (C12 (F12 n_dot_Refs)) := by unfold S_rcmp; intros; apply a12_dot_Refs; apply g_dot_Refs (C := C12) (F := F12) t12_dot_Compare t12_cmp_Compare_int t12_cmp_Or_int <;> assumption
theorem t12_op_Refs : S_refs (C12 (F12 n_op_Refs)) := by unfold S_refs; intros; apply a12_op_Refs; apply g_op_Refs (C := C12) (F := F12) t12_dot_Right t12_dot_Refs <;> assumption
theorem t12_op_Check : S_oCheck (C12 (F12 n_op_Check)) := by unfold S_oCheck; intros; apply a12_op_Check; apply g_op_Check (C := C12) (F := F12) t12_path_Check t12_op_valued t12_op_amount t12_op_Refs <;> assumption
theorem t12_txn_Check : S_tCheck (C12 (F12 n_txn_Check)) := by unfold S_tCheck; intros; apply a12_txn_Check; apply g_txn_Check (C := C12) (F := F12) t12_dot_Right t12_op_Gone t12_op_Check <;> assumption
theorem t12_txn_Compare : S_tCmp (C12 (F12 n_txn_Compare)) := by unfold S_tCmp; intros; apply a12_txn_Compare; apply g_txn_Compare (C := C12) (F := F12) t12_cmp_Compare_int t12_dot_Compare t12_cmp_Or_int <;> assumption
theorem t12_slices_BinarySearchFunc_Txn : S_tbs C12 (C12 (F12 n_slices_BinarySearchFunc_api_Txn_api_Txn_api_Dot)) := by unfold S_tbs; intros; apply a12_slices_BinarySearchFunc_api_Txn_api_Txn_api_Dot; apply g_slices_BinarySearchFunc_Txn (C := C12) (F := F12)  <;> assumption
theorem t12_txn_Find_1 : S_tdcmp (C12 (F12 n_txn_Find_1)) := by unfold S_tdcmp; intros; apply a12_txn_Find_1; apply g_txn_Find_1 (C := C12) (F := F12) t12_dot_Compare <;> assumption
theorem t12_txn_Find : S_tFind (C12 (F12 n_txn_Find)) := by unfold S_tFind; intros; apply a12_txn_Find; apply g_txn_Find (C := C12) (F := F12) t12_slices_BinarySearchFunc_Txn t12_txn_Find_1 <;> assumption
theorem t12_slices_EqualFunc : S_opsEq C12 (C12 (F12 n_slices_EqualFunc_api_Op_api_Op_api_Op_api_Op)) := by unfold S_opsEq; intros; apply a12_slices_EqualFunc_api_Op_api_Op_api_Op_api_Op; apply g_slices_EqualFunc (C := C12) (F := F12)  <;> assumption
theorem t12_slices_Equal : S_pSame (C12 (F12 n_slices_Equal_string_string)) := by unfold S_pSame; intros; apply a12_slices_Equal_string_string; apply g_slices_Equal (C := C12) (F := F12)  <;> assumption
theorem t12_slices_Equal_api_Ref : S_rsame (C12 (F12 n_slices_Equal_api_Ref_api_Ref)) := by unfold S_rsame; intros; apply a12_slices_Equal_api_Ref_api_Ref; apply g_slices_Equal_api_Ref (C := C12) (F := F12)  <;> assumption
theorem t12_op_Same : S_oSame (C12 (F12 n_op_Same)) := by unfold S_oSame; intros; apply a12_op_Same; apply g_op_Same (C := C12) (F := F12) t12_slices_Equal t12_slices_Equal_api_Ref <;> assumption
theorem t12_txn_Same : S_tSame (C12 (F12 n_txn_Same)) := by unfold S_tSame; intros; apply a12_txn_Same; apply g_txn_Same (C := C12) (F := F12) t12_slices_EqualFunc t12_op_Same <;> assumption
theorem t12_plaw12_awake : S_yes (C12 (F12 n_plaw12_awake)) := by unfold S_yes; intros; apply a12_plaw12_awake; apply g_plaw12_awake (C := C12) (F := F12) t12_plaw12_one t12_txn_Check t12_txn_Compare t12_txn_Find t12_txn_Same <;> assumption
theorem t12_pref10_Short : S_pShort (C12 (F12 n_pref10_Short)) := by unfold S_pShort; intros; apply a12_pref10_Short; apply g_pref10_Short (C := C12) (F := F12)  <;> assumption
theorem t12_pref11_Short : S_oShort (C12 (F12 n_pref11_Short)) := by unfold S_oShort; intros; apply a12_pref11_Short; apply g_pref11_Short (C := C12) (F := F12) t12_pref10_Short <;> assumption
theorem t12_pref12_Short : S_tShort (C12 (F12 n_pref12_Short)) := by unfold S_tShort; intros; apply a12_pref12_Short; apply g_pref12_Short (C := C12) (F := F12) t12_pref11_Short <;> assumption
theorem t12_pref04_Right : S_dotOk (C12 (F12 n_pref04_Right)) := by unfold S_dotOk; intros; apply a12_pref04_Right; apply g_pref04_Right (C := C12) (F := F12)  <;> assumption
theorem t12_pref11_Gone : S_oGone (C12 (F12 n_pref11_Gone)) := by unfold S_oGone; intros; apply a12_pref11_Gone; apply g_pref11_Gone (C := C12) (F := F12)  <;> assumption
theorem t12_pref03_Char : S_chr (C12 (F12 n_pref03_Char)) := by unfold S_chr; intros; apply a12_pref03_Char; apply g_pref03_Char (C := C12) (F := F12)  <;> assumption
theorem t12_pref03_Runes : S_runes .i64 (C12 (F12 n_pref03_Runes)) := by unfold S_runes; intros; apply a12_pref03_Runes; apply g_pref03_Runes (C := C12) (F := F12) t12_pref03_Char <;> assumption
theorem t12_pref03_may : S_may .i64 (C12 (F12 n_pref03_may)) := by unfold S_may; intros; apply a12_pref03_may; apply g_pref03_may (C := C12) (F := F12)  <;> assumption
theorem t12_pref03_Right : S_right (C12 (F12 n_pref03_Right)) := by unfold S_right; intros; apply a12_pref03_Right; apply g_pref03_Right (C := C12) (F := F12) t12_pref03_Runes t12_pref03_may <;> assumption
theorem t12_pref10_Check : S_pCheck (C12 (F12 n_pref10_Check)) := by unfold S_pCheck; intros; apply a12_pref10_Check; apply g_pref10_Check (C := C12) (F := F12) t12_pref03_Right <;> assumption
theorem t12_pref09_Right : S_vOk (C12 (F12 n_pref09_Right)) := by unfold S_vOk; intros; apply a12_pref09_Right; apply g_pref09_Right (C := C12) (F := F12) t12_pref03_Runes <;> assumption
theorem t12_pref04_ints : S_icmp (C12 (F12 n_pref04_ints)) := by unfold S_icmp; intros; apply a12_pref04_ints; apply g_pref04_ints (C := C12) (F := F12)  <;> assumption
theorem t12_pref04_Compare : S_dcmp (C12 (F12 n_pref04_Compare)) := by unfold S_dcmp; intros; apply a12_pref04_Compare; apply g_pref04_Compare (C := C12) (F := F12) t12_pref04_ints <;> assumption
theorem t12_pref04_Refs : S_rcmp (C12 (F12 n_pref04_Refs)) := by unfold S_rcmp; intros; apply a12_pref04_Refs; apply g_pref04_Refs (C := C12) (F := F12) t12_pref04_Compare t12_pref04_ints <;> assumption
theorem t12_pref11_Refs : S_refs (C12 (F12 n_pref11_Refs)) := by unfold S_refs; intros; apply a12_pref11_Refs; apply g_pref11_Refs (C := C12) (F := F12) t12_pref04_Right t12_pref04_Refs <;> assumption
theorem t12_pref11_Check : S_oCheck (C12 (F12 n_pref11_Check)) := by unfold S_oCheck; intros; apply a12_pref11_Check; apply g_pref11_Check (C := C12) (F := F12) t12_pref10_Check t12_pref09_Right t12_pref11_Refs <;> assumption
theorem t12_pref12_Check : S_tCheck (C12 (F12 n_pref12_Check)) := by unfold S_tCheck; intros; apply a12_pref12_Check; apply g_pref12_Check (C := C12) (F := F12) t12_pref04_Right t12_pref11_Gone t12_pref11_Check <;> assumption
theorem t12_pref03_Same : S_xSame (C12 (F12 n_pref03_Same)) := by unfold S_xSame; intros; apply a12_pref03_Same; apply g_pref03_Same (C := C12) (F := F12)  <;> assumption
theorem t12_pref11_Same : S_oSame (C12 (F12 n_pref11_Same)) := by unfold S_oSame; intros; apply a12_pref11_Same; apply g_pref11_Same (C := C12) (F := F12) t12_pref03_Same <;> assumption
theorem t12_pref12_Same : S_tSame (C12 (F12 n_pref12_Same)) := by unfold S_tSame; intros; apply a12_pref12_Same; apply g_pref12_Same (C := C12) (F := F12) t12_pref11_Same <;> assumption
theorem t12_WriteByte : S_WriteByte (F12 n_T_strings_Builder) (F12 n_T_uint8) (C12 (F12 n_strings_Builder_WriteByte)) := by unfold S_WriteByte; intros; apply a12_strings_Builder_WriteByte; apply g_WriteByte (C := C12) (F := F12) t12_copyCheck <;> assumption
theorem t12_pack_Int : S_i2s (C12 (F12 n_pack_Int)) := by unfold S_i2s; intros; apply a12_pack_Int; apply g_pack_Int (C := C12) (F := F12) t12_WriteByte t12_BString <;> assumption
theorem t12_dot_Code : S_dCode (C12 (F12 n_dot_Code)) := by unfold S_dCode; intros; apply a12_dot_Code; apply g_dot_Code (C := C12) (F := F12) t12_pack_Int <;> assumption
theorem t12_pack_Text : S_ptext (C12 (F12 n_pack_Text)) := by unfold S_ptext; intros; apply a12_pack_Text; apply g_pack_Text (C := C12) (F := F12) t12_pack_Int <;> assumption
theorem t12_path_Code : S_pCode (C12 (F12 n_path_Code)) := by unfold S_pCode; intros; apply a12_path_Code; apply g_path_Code (C := C12) (F := F12) t12_pack_Int t12_pack_Text <;> assumption
theorem t12_value_Fold : S_fold (C12 (F12 n_value_Fold)) := by unfold S_fold; intros; apply a12_value_Fold; apply g_value_Fold (C := C12) (F := F12)  <;> assumption
theorem t12_value_Code : S_vCode (C12 (F12 n_value_Code)) := by unfold S_vCode; intros; apply a12_value_Code; apply g_value_Code (C := C12) (F := F12) t12_pack_Int t12_pack_Text t12_value_Fold <;> assumption
theorem t12_op_Code : S_oCode (C12 (F12 n_op_Code)) := by unfold S_oCode; intros; apply a12_op_Code; apply g_op_Code (C := C12) (F := F12) t12_pack_Int t12_op_Gone t12_path_Code t12_value_Fold t12_value_Code t12_dot_Code <;> assumption
theorem t12_txn_Code : S_tCode (C12 (F12 n_txn_Code)) := by unfold S_tCode; intros; apply a12_txn_Code; apply g_txn_Code (C := C12) (F := F12) t12_dot_Code t12_pack_Int t12_op_Code <;> assumption
theorem t12_pref02_Int : S_i2s (C12 (F12 n_pref02_Int)) := rec_pref02_Int (C := C12) (F := F12) (fun _ _ _ h => a12_pref02_Int h) 
theorem t12_pref04_Code : S_dCode (C12 (F12 n_pref04_Code)) := by unfold S_dCode; intros; apply a12_pref04_Code; apply g_pref04_Code (C := C12) (F := F12) t12_pref02_Int <;> assumption
theorem t12_pref02_Text : S_ptext (C12 (F12 n_pref02_Text)) := by unfold S_ptext; intros; apply a12_pref02_Text; apply g_pref02_Text (C := C12) (F := F12) t12_pref02_Int <;> assumption
theorem t12_pref10_Code : S_pCode (C12 (F12 n_pref10_Code)) := by unfold S_pCode; intros; apply a12_pref10_Code; apply g_pref10_Code (C := C12) (F := F12) t12_pref02_Int t12_pref02_Text <;> assumption
theorem t12_pref09_Fold : S_fold (C12 (F12 n_pref09_Fold)) := by unfold S_fold; intros; apply a12_pref09_Fold; apply g_pref09_Fold (C := C12) (F := F12)  <;> assumption
theorem t12_pref09_Code : S_vCode (C12 (F12 n_pref09_Code)) := by unfold S_vCode; intros; apply a12_pref09_Code; apply g_pref09_Code (C := C12) (F := F12) t12_pref02_Int t12_pref02_Text t12_pref09_Fold <;> assumption
theorem t12_pref11_Code : S_oCode (C12 (F12 n_pref11_Code)) := by unfold S_oCode; intros; apply a12_pref11_Code; apply g_pref11_Code (C := C12) (F := F12) t12_pref02_Int t12_pref11_Gone t12_pref10_Code t12_pref09_Fold t12_pref09_Code t12_pref04_Code <;> assumption
theorem t12_pref12_Code : S_tCode (C12 (F12 n_pref12_Code)) := by unfold S_tCode; intros; apply a12_pref12_Code; apply g_pref12_Code (C := C12) (F := F12) t12_pref04_Code t12_pref02_Int t12_pref11_Code <;> assumption
theorem t12_txn_Rises : S_tRises (C12 (F12 n_txn_Rises)) := by unfold S_tRises; intros; apply a12_txn_Rises; apply g_txn_Rises (C := C12) (F := F12) t12_dot_Compare <;> assumption
theorem t12_pref12_Rises : S_tRises (C12 (F12 n_pref12_Rises)) := by unfold S_tRises; intros; apply a12_pref12_Rises; apply g_pref12_Rises (C := C12) (F := F12) t12_pref04_Compare <;> assumption
theorem t12_pref12_All : S_tAll (C12 (F12 n_pref12_All)) := by unfold S_tAll; intros; apply a12_pref12_All; apply g_pref12_All (C := C12) (F := F12) t12_pref12_Same <;> assumption
theorem t12_Open : S_Open (C12 (F12 n_pack_Open)) := by unfold S_Open; intros; apply a12_pack_Open; apply g_Open (C := C12) (F := F12)  <;> assumption
theorem t12_fine : S_fine (C12 (F12 n_pack_Reader_fine)) := by unfold S_fine; intros; apply a12_pack_Reader_fine; apply g_fine (C := C12) (F := F12)  <;> assumption
theorem t12_Fail : S_Fail (C12 (F12 n_pack_Reader_Fail)) := by unfold S_Fail; intros; apply a12_pack_Reader_Fail; apply g_Fail (C := C12) (F := F12) t12_fine <;> assumption
theorem t12_rInt : S_rInt (C12 (F12 n_pack_Reader_Int)) := by unfold S_rInt; intros; apply a12_pack_Reader_Int; apply g_rInt (C := C12) (F := F12) t12_fine t12_Fail <;> assumption
theorem t12_Fault : S_Fault (C12 (F12 n_pack_Reader_Fault)) := by unfold S_Fault; intros; apply a12_pack_Reader_Fault; apply g_Fault (C := C12) (F := F12)  <;> assumption
theorem t12_dot_Read : S_dRead (C12 (F12 n_dot_Read)) := by unfold S_dRead; intros; apply a12_dot_Read; apply g_dot_Read (C := C12) (F := F12) t12_rInt t12_Fault t12_dot_Right t12_Fail <;> assumption
theorem t12_rMany : S_rMany (C12 (F12 n_pack_Reader_Many)) := by unfold S_rMany; intros; apply a12_pack_Reader_Many; apply g_rMany (C := C12) (F := F12) t12_rInt t12_fine t12_Fail <;> assumption
theorem t12_rText : S_rText (C12 (F12 n_pack_Reader_Text)) := by unfold S_rText; intros; apply a12_pack_Reader_Text; apply g_rText (C := C12) (F := F12) t12_rInt t12_fine t12_Fail <;> assumption
theorem t12_path_Read : S_pRead (C12 (F12 n_path_Read)) := by unfold S_pRead; intros; apply a12_path_Read; apply g_path_Read (C := C12) (F := F12) t12_rMany t12_rText t12_Fault t12_path_Check t12_Fail <;> assumption
theorem t12_value_Unfold : S_unfold (C12 (F12 n_value_Unfold)) := by unfold S_unfold; intros; apply a12_value_Unfold; apply g_value_Unfold (C := C12) (F := F12)  <;> assumption
theorem t12_value_Read : S_vRead (C12 (F12 n_value_Read)) := by unfold S_vRead; intros; apply a12_value_Read; apply g_value_Read (C := C12) (F := F12) t12_rInt t12_rText t12_value_Unfold t12_Fault t12_value_Right t12_Fail <;> assumption
theorem t12_op_seen : S_seen (C12 (F12 n_op_seen)) := by unfold S_seen; intros; apply a12_op_seen; apply g_op_seen (C := C12) (F := F12) t12_rMany t12_dot_Read t12_rInt <;> assumption
theorem t12_op_Read : S_oRead (C12 (F12 n_op_Read)) := by unfold S_oRead; intros; apply a12_op_Read; apply g_op_Read (C := C12) (F := F12) t12_rInt t12_path_Read t12_value_Unfold t12_value_Read t12_op_seen t12_Fault t12_op_Check t12_Fail <;> assumption
theorem t12_txn_Read : S_tRead (C12 (F12 n_txn_Read)) := by unfold S_tRead; intros; apply a12_txn_Read; apply g_txn_Read (C := C12) (F := F12) t12_dot_Read t12_rInt t12_Fault t12_Fail t12_rMany t12_op_Read t12_txn_Check <;> assumption
theorem t12_Left : S_Left (C12 (F12 n_pack_Reader_Left)) := by unfold S_Left; intros; apply a12_pack_Reader_Left; apply g_Left (C := C12) (F := F12) t12_fine <;> assumption
theorem t12_txn_ReadList : S_tsRead (C12 (F12 n_txn_ReadList)) := by unfold S_tsRead; intros; apply a12_txn_ReadList; apply g_txn_ReadList (C := C12) (F := F12) t12_rMany t12_txn_Read t12_Fault t12_txn_Rises t12_Fail <;> assumption
theorem t12_pref12_Good : S_tGood (C12 (F12 n_pref12_Good)) := by unfold S_tGood; intros; apply a12_pref12_Good; apply g_pref12_Good (C := C12) (F := F12) t12_pref12_Rises t12_pref12_Short t12_pref12_Check <;> assumption
theorem t12_txn_List : S_tList (C12 (F12 n_txn_List)) := by unfold S_tList; intros; apply a12_txn_List; apply g_txn_List (C := C12) (F := F12) t12_pack_Int t12_txn_Code <;> assumption
theorem t12_pref12_List : S_tList (C12 (F12 n_pref12_List)) := by unfold S_tList; intros; apply a12_pref12_List; apply g_pref12_List (C := C12) (F := F12) t12_pref02_Int t12_pref12_Code <;> assumption
theorem t12_End : S_End (C12 (F12 n_pack_Reader_End)) := by unfold S_End; intros; apply a12_pack_Reader_End; apply g_End (C := C12) (F := F12) t12_Left t12_Fail t12_Fault <;> assumption
theorem t12_TxnBack : S_tOrder (C12 (F12 n_plaw12_TxnBack)) := by unfold S_tOrder; intros; apply a12_plaw12_TxnBack; apply g_TxnBack (C := C12) (F := F12) t12_plaw12_awake t12_pref12_Good t12_txn_List t12_pref12_List t12_Open t12_txn_ReadList t12_pref12_All t12_End t12_txn_Code t12_txn_Read t12_pref12_Same t12_pref04_Right <;> assumption
end Go.AR
