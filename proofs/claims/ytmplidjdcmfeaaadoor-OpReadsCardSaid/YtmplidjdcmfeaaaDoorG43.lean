import Derived.Test.YtmplidjdcmfeaaaDoorG34
import Derived.Test.YtmplidjdcmfeaaaDoorG35
import Derived.Test.YtmplidjdcmfeaaaDoorG36
import Derived.Test.YtmplidjdcmfeaaaDoorG37
import Derived.Test.YtmplidjdcmfeaaaDoorG38
import Derived.Test.YtmplidjdcmfeaaaDoorG39
import Derived.Test.YtmplidjdcmfeaaaDoorG40
import Derived.Test.YtmplidjdcmfeaaaDoorG41
import Derived.Test.YtmplidjdcmfeaaaDoorG42
set_option linter.all false
/-! The contracts of the seat. Printed by program. -/
namespace Go.AR
open Go Go.Proofs
theorem t11_slices_IndexFunc : S_idxF C11 (C11 (F11 n_slices_IndexFunc_string_string)) := by unfold S_idxF; intros; apply a11_slices_IndexFunc_string_string; apply g_slices_IndexFunc (C := C11) (F := F11)  <;> assumption
theorem t11_slices_ContainsFunc : S_conF C11 (C11 (F11 n_slices_ContainsFunc_string_string)) := by unfold S_conF; intros; apply a11_slices_ContainsFunc_string_string; apply g_slices_ContainsFunc (C := C11) (F := F11) t11_slices_IndexFunc <;> assumption
theorem t11_utf8_Decode : S_dec (C11 (F11 n_unicode_utf8_DecodeRuneInString)) := by unfold S_dec; intros; apply a11_unicode_utf8_DecodeRuneInString; apply g_utf8_Decode (C := C11) (F := F11) t11_slow <;> assumption
theorem t11_name_Runes : S_runes .i32 (C11 (F11 n_name_Runes)) := by unfold S_runes; intros; apply a11_name_Runes; apply g_name_Runes (C := C11) (F := F11) t11_utf8_Decode <;> assumption
theorem t11_name_may : S_may .i32 (C11 (F11 n_name_may)) := by unfold S_may; intros; apply a11_name_may; apply g_name_may (C := C11) (F := F11)  <;> assumption
theorem t11_name_Right : S_right (C11 (F11 n_name_Right)) := by unfold S_right; intros; apply a11_name_Right; apply g_name_Right (C := C11) (F := F11) t11_name_Runes t11_name_may <;> assumption
theorem t11_path_Check_1 : S_notRight (C11 (F11 n_path_Check_1)) := by unfold S_notRight; intros; apply a11_path_Check_1; apply g_path_Check_1 (C := C11) (F := F11) t11_name_Right <;> assumption
theorem t11_path_Check : S_pCheck (C11 (F11 n_path_Check)) := by unfold S_pCheck; intros; apply a11_path_Check; apply g_path_Check (C := C11) (F := F11) t11_slices_ContainsFunc t11_path_Check_1 <;> assumption
theorem t11_value_Right : S_vOk (C11 (F11 n_value_Right)) := by unfold S_vOk; intros; apply a11_value_Right; apply g_value_Right (C := C11) (F := F11) t11_name_Runes <;> assumption
theorem t11_op_valued : S_oVal (C11 (F11 n_op_valued)) := by unfold S_oVal; intros; apply a11_op_valued; apply g_op_valued (C := C11) (F := F11) t11_value_Right <;> assumption
theorem t11_op_amount : S_oAm (C11 (F11 n_op_amount)) := by unfold S_oAm; intros; apply a11_op_amount; apply g_op_amount (C := C11) (F := F11)  <;> assumption
theorem t11_dot_Right : S_dotOk (C11 (F11 n_dot_Right)) := by unfold S_dotOk; intros; apply a11_dot_Right; apply g_dot_Right (C := C11) (F := F11)  <;> assumption
theorem t11_cmp_isNaN_int : S_isNaN (C11 (F11 n_cmp_isNaN_int)) := by unfold S_isNaN; intros; apply a11_cmp_isNaN_int; apply g_cmp_isNaN_int (C := C11) (F := F11)  <;> assumption
theorem t11_cmp_Compare_int : S_icmp (C11 (F11 n_cmp_Compare_int)) := by unfold S_icmp; intros; apply a11_cmp_Compare_int; apply g_cmp_Compare_int (C := C11) (F := F11) t11_cmp_isNaN_int <;> assumption
theorem t11_cmp_Or_int : S_or2 (C11 (F11 n_cmp_Or_int)) := by unfold S_or2; intros; apply a11_cmp_Or_int; apply g_cmp_Or_int (C := C11) (F := F11)  <;> assumption
theorem t11_dot_Compare : S_dcmp (C11 (F11 n_dot_Compare)) := by unfold S_dcmp; intros; apply a11_dot_Compare; apply g_dot_Compare (C := C11) (F := F11) t11_cmp_Compare_int t11_cmp_Or_int <;> assumption
theorem t11_dot_Refs : S_rcmp (C11 (F11 n_dot_Refs)) := by unfold S_rcmp; intros; apply a11_dot_Refs; apply g_dot_Refs (C := C11) (F := F11) t11_dot_Compare t11_cmp_Compare_int t11_cmp_Or_int <;> assumption
theorem t11_op_Refs : S_refs (C11 (F11 n_op_Refs)) := by unfold S_refs; intros; apply a11_op_Refs; apply g_op_Refs (C := C11) (F := F11) t11_dot_Right t11_dot_Refs <;> assumption
theorem t11_op_Check : S_oCheck (C11 (F11 n_op_Check)) := by unfold S_oCheck; intros; apply a11_op_Check; apply g_op_Check (C := C11) (F := F11) t11_path_Check t11_op_valued t11_op_amount t11_op_Refs <;> assumption
theorem t11_WriteByte : S_WriteByte (F11 n_T_strings_Builder) (F11 n_T_uint8) (C11 (F11 n_strings_Builder_WriteByte)) := by unfold S_WriteByte; intros; apply a11_strings_Builder_WriteByte; apply g_WriteByte (C := C11) (F := F11) t11_copyCheck <;> assumption
theorem t11_pack_Int : S_i2s (C11 (F11 n_pack_Int)) := by unfold S_i2s; intros; apply a11_pack_Int; apply g_pack_Int (C := C11) (F := F11) t11_WriteByte t11_BString <;> assumption
theorem t11_op_Gone : S_oGone (C11 (F11 n_op_Gone)) := by unfold S_oGone; intros; apply a11_op_Gone; apply g_op_Gone (C := C11) (F := F11)  <;> assumption
theorem t11_pack_Text : S_ptext (C11 (F11 n_pack_Text)) := by unfold S_ptext; intros; apply a11_pack_Text; apply g_pack_Text (C := C11) (F := F11) t11_pack_Int <;> assumption
theorem t11_path_Code : S_pCode (C11 (F11 n_path_Code)) := by unfold S_pCode; intros; apply a11_path_Code; apply g_path_Code (C := C11) (F := F11) t11_pack_Int t11_pack_Text <;> assumption
theorem t11_value_Fold : S_fold (C11 (F11 n_value_Fold)) := by unfold S_fold; intros; apply a11_value_Fold; apply g_value_Fold (C := C11) (F := F11)  <;> assumption
theorem t11_value_Code : S_vCode (C11 (F11 n_value_Code)) := by unfold S_vCode; intros; apply a11_value_Code; apply g_value_Code (C := C11) (F := F11) t11_pack_Int t11_pack_Text t11_value_Fold <;> assumption
theorem t11_dot_Code : S_dCode (C11 (F11 n_dot_Code)) := by unfold S_dCode; intros; apply a11_dot_Code; apply g_dot_Code (C := C11) (F := F11) t11_pack_Int <;> assumption
theorem t11_op_Code : S_oCode (C11 (F11 n_op_Code)) := by unfold S_oCode; intros; apply a11_op_Code; apply g_op_Code (C := C11) (F := F11) t11_pack_Int t11_op_Gone t11_path_Code t11_value_Fold t11_value_Code t11_dot_Code <;> assumption
theorem t11_op_Leaf : S_leaf (C11 (F11 n_op_Leaf)) := by unfold S_leaf; intros; apply a11_op_Leaf; apply g_op_Leaf (C := C11) (F := F11)  <;> assumption
theorem t11_plaw11_awake : S_yes (C11 (F11 n_plaw11_awake)) := by unfold S_yes; intros; apply a11_plaw11_awake; apply g_plaw11_awake (C := C11) (F := F11) t11_op_Check t11_op_Code t11_op_Leaf <;> assumption
theorem t11_pref10_Short : S_pShort (C11 (F11 n_pref10_Short)) := by unfold S_pShort; intros; apply a11_pref10_Short; apply g_pref10_Short (C := C11) (F := F11)  <;> assumption
theorem t11_pref11_Short : S_oShort (C11 (F11 n_pref11_Short)) := by unfold S_oShort; intros; apply a11_pref11_Short; apply g_pref11_Short (C := C11) (F := F11) t11_pref10_Short <;> assumption
theorem t11_pref03_Char : S_chr (C11 (F11 n_pref03_Char)) := by unfold S_chr; intros; apply a11_pref03_Char; apply g_pref03_Char (C := C11) (F := F11)  <;> assumption
theorem t11_pref03_Runes : S_runes .i64 (C11 (F11 n_pref03_Runes)) := by unfold S_runes; intros; apply a11_pref03_Runes; apply g_pref03_Runes (C := C11) (F := F11) t11_pref03_Char <;> assumption
theorem t11_pref03_may : S_may .i64 (C11 (F11 n_pref03_may)) := by unfold S_may; intros; apply a11_pref03_may; apply g_pref03_may (C := C11) (F := F11)  <;> assumption
theorem t11_pref03_Right : S_right (C11 (F11 n_pref03_Right)) := by unfold S_right; intros; apply a11_pref03_Right; apply g_pref03_Right (C := C11) (F := F11) t11_pref03_Runes t11_pref03_may <;> assumption
theorem t11_pref10_Check : S_pCheck (C11 (F11 n_pref10_Check)) := by unfold S_pCheck; intros; apply a11_pref10_Check; apply g_pref10_Check (C := C11) (F := F11) t11_pref03_Right <;> assumption
theorem t11_pref09_Right : S_vOk (C11 (F11 n_pref09_Right)) := by unfold S_vOk; intros; apply a11_pref09_Right; apply g_pref09_Right (C := C11) (F := F11) t11_pref03_Runes <;> assumption
theorem t11_pref04_Right : S_dotOk (C11 (F11 n_pref04_Right)) := by unfold S_dotOk; intros; apply a11_pref04_Right; apply g_pref04_Right (C := C11) (F := F11)  <;> assumption
theorem t11_pref04_ints : S_icmp (C11 (F11 n_pref04_ints)) := by unfold S_icmp; intros; apply a11_pref04_ints; apply g_pref04_ints (C := C11) (F := F11)  <;> assumption
theorem t11_pref04_Compare : S_dcmp (C11 (F11 n_pref04_Compare)) := by unfold S_dcmp; intros; apply a11_pref04_Compare; apply g_pref04_Compare (C := C11) (F := F11) t11_pref04_ints <;> assumption
theorem t11_pref04_Refs : S_rcmp (C11 (F11 n_pref04_Refs)) := by unfold S_rcmp; intros; apply a11_pref04_Refs; apply g_pref04_Refs (C := C11) (F := F11) t11_pref04_Compare t11_pref04_ints <;> assumption
theorem t11_pref11_Refs : S_refs (C11 (F11 n_pref11_Refs)) := by unfold S_refs; intros; apply a11_pref11_Refs; apply g_pref11_Refs (C := C11) (F := F11) t11_pref04_Right t11_pref04_Refs <;> assumption
theorem t11_pref11_Check : S_oCheck (C11 (F11 n_pref11_Check)) := by unfold S_oCheck; intros; apply a11_pref11_Check; apply g_pref11_Check (C := C11) (F := F11) t11_pref10_Check t11_pref09_Right t11_pref11_Refs <;> assumption
theorem t11_slices_BinarySearchFunc_api_Ref : S_rfind C11 (C11 (F11 n_slices_BinarySearchFunc_api_Ref_api_Ref_api_Ref)) := by unfold S_rfind; intros; apply a11_slices_BinarySearchFunc_api_Ref_api_Ref_api_Ref; apply g_slices_BinarySearchFunc_api_Ref (C := C11) (F := F11)  <;> assumption
theorem t11_op_Covers : S_oCov (C11 (F11 n_op_Covers)) := by unfold S_oCov; intros; apply a11_op_Covers; apply g_op_Covers (C := C11) (F := F11) t11_slices_BinarySearchFunc_api_Ref t11_dot_Refs <;> assumption
theorem t11_OpNames : S_oNames (C11 (F11 n_plaw11_OpNames)) := by unfold S_oNames; intros; apply a11_plaw11_OpNames; apply g_OpNames (C := C11) (F := F11) t11_plaw11_awake t11_pref11_Short t11_pref11_Check t11_op_Covers <;> assumption
theorem t11_pref11_Leaf : S_leaf (C11 (F11 n_pref11_Leaf)) := by unfold S_leaf; intros; apply a11_pref11_Leaf; apply g_pref11_Leaf (C := C11) (F := F11)  <;> assumption
theorem t11_slices_Equal : S_pSame (C11 (F11 n_slices_Equal_string_string)) := by unfold S_pSame; intros; apply a11_slices_Equal_string_string; apply g_slices_Equal (C := C11) (F := F11)  <;> assumption
theorem t11_slices_Equal_api_Ref : S_rsame (C11 (F11 n_slices_Equal_api_Ref_api_Ref)) := by unfold S_rsame; intros; apply a11_slices_Equal_api_Ref_api_Ref; apply g_slices_Equal_api_Ref (C := C11) (F := F11)  <;> assumption
theorem t11_op_Same : S_oSame (C11 (F11 n_op_Same)) := by unfold S_oSame; intros; apply a11_op_Same; apply g_op_Same (C := C11) (F := F11) t11_slices_Equal t11_slices_Equal_api_Ref <;> assumption
theorem t11_pref03_Same : S_xSame (C11 (F11 n_pref03_Same)) := by unfold S_xSame; intros; apply a11_pref03_Same; apply g_pref03_Same (C := C11) (F := F11)  <;> assumption
theorem t11_pref11_Same : S_oSame (C11 (F11 n_pref11_Same)) := by unfold S_oSame; intros; apply a11_pref11_Same; apply g_pref11_Same (C := C11) (F := F11) t11_pref03_Same <;> assumption
theorem t11_pref11_Gone : S_oGone (C11 (F11 n_pref11_Gone)) := by unfold S_oGone; intros; apply a11_pref11_Gone; apply g_pref11_Gone (C := C11) (F := F11)  <;> assumption
theorem t11_pref11_Covers : S_oCov (C11 (F11 n_pref11_Covers)) := by unfold S_oCov; intros; apply a11_pref11_Covers; apply g_pref11_Covers (C := C11) (F := F11)  <;> assumption
theorem t11_pref02_Int : S_i2s (C11 (F11 n_pref02_Int)) := rec_pref02_Int (C := C11) (F := F11) (fun _ _ _ h => a11_pref02_Int h) 
theorem t11_pref02_Text : S_ptext (C11 (F11 n_pref02_Text)) := by unfold S_ptext; intros; apply a11_pref02_Text; apply g_pref02_Text (C := C11) (F := F11) t11_pref02_Int <;> assumption
theorem t11_pref10_Code : S_pCode (C11 (F11 n_pref10_Code)) := by unfold S_pCode; intros; apply a11_pref10_Code; apply g_pref10_Code (C := C11) (F := F11) t11_pref02_Int t11_pref02_Text <;> assumption
theorem t11_pref09_Fold : S_fold (C11 (F11 n_pref09_Fold)) := by unfold S_fold; intros; apply a11_pref09_Fold; apply g_pref09_Fold (C := C11) (F := F11)  <;> assumption
theorem t11_pref09_Code : S_vCode (C11 (F11 n_pref09_Code)) := by unfold S_vCode; intros; apply a11_pref09_Code; apply g_pref09_Code (C := C11) (F := F11) t11_pref02_Int t11_pref02_Text t11_pref09_Fold <;> assumption
theorem t11_pref04_Code : S_dCode (C11 (F11 n_pref04_Code)) := by unfold S_dCode; intros; apply a11_pref04_Code; apply g_pref04_Code (C := C11) (F := F11) t11_pref02_Int <;> assumption
theorem t11_pref11_Code : S_oCode (C11 (F11 n_pref11_Code)) := by unfold S_oCode; intros; apply a11_pref11_Code; apply g_pref11_Code (C := C11) (F := F11) t11_pref02_Int t11_pref11_Gone t11_pref10_Code t11_pref09_Fold t11_pref09_Code t11_pref04_Code <;> assumption
theorem t11_OpTells : S_oTells (C11 (F11 n_plaw11_OpTells)) := by unfold S_oTells; intros; apply a11_plaw11_OpTells; apply g_OpTells (C := C11) (F := F11) t11_plaw11_awake t11_pref11_Short t11_pref11_Check t11_op_Check t11_op_Leaf t11_pref11_Leaf t11_op_Refs t11_pref11_Refs t11_op_Same t11_pref11_Same t11_op_Gone t11_pref11_Gone t11_op_Covers t11_pref11_Covers t11_op_Code t11_pref11_Code <;> assumption
theorem t11_Open : S_Open (C11 (F11 n_pack_Open)) := by unfold S_Open; intros; apply a11_pack_Open; apply g_Open (C := C11) (F := F11)  <;> assumption
theorem t11_fine : S_fine (C11 (F11 n_pack_Reader_fine)) := by unfold S_fine; intros; apply a11_pack_Reader_fine; apply g_fine (C := C11) (F := F11)  <;> assumption
theorem t11_Fail : S_Fail (C11 (F11 n_pack_Reader_Fail)) := by unfold S_Fail; intros; apply a11_pack_Reader_Fail; apply g_Fail (C := C11) (F := F11) t11_fine <;> assumption
theorem t11_rInt : S_rInt (C11 (F11 n_pack_Reader_Int)) := by unfold S_rInt; intros; apply a11_pack_Reader_Int; apply g_rInt (C := C11) (F := F11) t11_fine t11_Fail <;> assumption
theorem t11_rMany : S_rMany (C11 (F11 n_pack_Reader_Many)) := by unfold S_rMany; intros; apply a11_pack_Reader_Many; apply g_rMany (C := C11) (F := F11) t11_rInt t11_fine t11_Fail <;> assumption
theorem t11_rText : S_rText (C11 (F11 n_pack_Reader_Text)) := by unfold S_rText; intros; apply a11_pack_Reader_Text; apply g_rText (C := C11) (F := F11) t11_rInt t11_fine t11_Fail <;> assumption
theorem t11_Fault : S_Fault (C11 (F11 n_pack_Reader_Fault)) := by unfold S_Fault; intros; apply a11_pack_Reader_Fault; apply g_Fault (C := C11) (F := F11)  <;> assumption
theorem t11_path_Read : S_pRead (C11 (F11 n_path_Read)) := by unfold S_pRead; intros; apply a11_path_Read; apply g_path_Read (C := C11) (F := F11) t11_rMany t11_rText t11_Fault t11_path_Check t11_Fail <;> assumption
theorem t11_value_Unfold : S_unfold (C11 (F11 n_value_Unfold)) := by unfold S_unfold; intros; apply a11_value_Unfold; apply g_value_Unfold (C := C11) (F := F11)  <;> assumption
theorem t11_value_Read : S_vRead (C11 (F11 n_value_Read)) := by unfold S_vRead; intros; apply a11_value_Read; apply g_value_Read (C := C11) (F := F11) t11_rInt t11_rText t11_value_Unfold t11_Fault t11_value_Right t11_Fail <;> assumption
theorem t11_dot_Read : S_dRead (C11 (F11 n_dot_Read)) := by unfold S_dRead; intros; apply a11_dot_Read; apply g_dot_Read (C := C11) (F := F11) t11_rInt t11_Fault t11_dot_Right t11_Fail <;> assumption
theorem t11_op_seen : S_seen (C11 (F11 n_op_seen)) := by unfold S_seen; intros; apply a11_op_seen; apply g_op_seen (C := C11) (F := F11) t11_rMany t11_dot_Read t11_rInt <;> assumption
theorem t11_op_Read : S_oRead (C11 (F11 n_op_Read)) := by unfold S_oRead; intros; apply a11_op_Read; apply g_op_Read (C := C11) (F := F11) t11_rInt t11_path_Read t11_value_Unfold t11_value_Read t11_op_seen t11_Fault t11_op_Check t11_Fail <;> assumption
theorem t11_Left : S_Left (C11 (F11 n_pack_Reader_Left)) := by unfold S_Left; intros; apply a11_pack_Reader_Left; apply g_Left (C := C11) (F := F11) t11_fine <;> assumption
theorem t11_End : S_End (C11 (F11 n_pack_Reader_End)) := by unfold S_End; intros; apply a11_pack_Reader_End; apply g_End (C := C11) (F := F11) t11_Left t11_Fail t11_Fault <;> assumption
theorem t11_OpBack : S_o1 (C11 (F11 n_plaw11_OpBack)) := by unfold S_o1; intros; apply a11_plaw11_OpBack; apply g_OpBack (C := C11) (F := F11) t11_plaw11_awake t11_pref11_Short t11_pref11_Check t11_pref11_Gone t11_op_Code t11_Open t11_op_Read t11_pref11_Same t11_End <;> assumption
theorem t11_XInt : S_XInt (C11 (F11 n_pref02_Reader_Int)) := by unfold S_XInt; intros; apply a11_pref02_Reader_Int; apply g_XInt (C := C11) (F := F11)  <;> assumption
theorem t11_XMany : S_XMany (C11 (F11 n_pref02_Reader_Many)) := by unfold S_XMany; intros; apply a11_pref02_Reader_Many; apply g_XMany (C := C11) (F := F11) t11_XInt <;> assumption
theorem t11_XText : S_XText (C11 (F11 n_pref02_Reader_Text)) := by unfold S_XText; intros; apply a11_pref02_Reader_Text; apply g_XText (C := C11) (F := F11) t11_XInt <;> assumption
theorem t11_XFail : S_XFail (C11 (F11 n_pref02_Reader_Fail)) := by unfold S_XFail; intros; apply a11_pref02_Reader_Fail; apply g_XFail (C := C11) (F := F11)  <;> assumption
theorem t11_pref10_Read : S_XPath (C11 (F11 n_pref10_Read)) := by unfold S_XPath; intros; apply a11_pref10_Read; apply g_pref10_Read (C := C11) (F := F11) t11_XMany t11_XText t11_pref10_Check t11_XFail <;> assumption
theorem t11_pref09_Unfold : S_unfold (C11 (F11 n_pref09_Unfold)) := by unfold S_unfold; intros; apply a11_pref09_Unfold; apply g_pref09_Unfold (C := C11) (F := F11)  <;> assumption
theorem t11_pref09_Read : S_XVal (C11 (F11 n_pref09_Read)) := by unfold S_XVal; intros; apply a11_pref09_Read; apply g_pref09_Read (C := C11) (F := F11) t11_XInt t11_XText t11_pref09_Unfold t11_pref09_Right <;> assumption
theorem t11_pref04_Read : S_XDot (C11 (F11 n_pref04_Read)) := by unfold S_XDot; intros; apply a11_pref04_Read; apply g_pref04_Read (C := C11) (F := F11) t11_XInt t11_pref04_Right <;> assumption
theorem t11_pref11_Read : S_XOp (C11 (F11 n_pref11_Read)) := by unfold S_XOp; intros; apply a11_pref11_Read; apply g_pref11_Read (C := C11) (F := F11) t11_XInt t11_pref10_Read t11_pref09_Unfold t11_pref09_Read t11_XMany t11_pref04_Read t11_pref11_Check t11_XFail <;> assumption
theorem t11_XLeft : S_XLeft (C11 (F11 n_pref02_Reader_Left)) := by unfold S_XLeft; intros; apply a11_pref02_Reader_Left; apply g_XLeft (C := C11) (F := F11)  <;> assumption
theorem t11_OpReads : S_n1 (C11 (F11 n_plaw11_OpReads)) := by unfold S_n1; intros; apply a11_plaw11_OpReads; apply g_OpReads (C := C11) (F := F11) t11_plaw11_awake t11_Open t11_op_Read t11_pref11_Read t11_pref11_Same t11_Fault t11_Left t11_XLeft <;> assumption
end Go.AR
