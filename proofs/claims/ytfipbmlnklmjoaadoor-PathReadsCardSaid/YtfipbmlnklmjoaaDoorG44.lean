import Derived.Test.YtfipbmlnklmjoaaDoorG35
import Derived.Test.YtfipbmlnklmjoaaDoorG38
import Derived.Test.YtfipbmlnklmjoaaDoorG39
import Derived.Test.YtfipbmlnklmjoaaDoorG40
import Derived.Test.YtfipbmlnklmjoaaDoorG41
import Derived.Test.YtfipbmlnklmjoaaDoorG42
import Derived.Test.YtfipbmlnklmjoaaDoorG43
set_option linter.all false
/-! The contracts of the seat. Printed by program. -/
namespace Go.AR
open Go Go.Proofs
theorem t10_name_Split : S_split (C10 (F10 n_name_Split)) := by unfold S_split; intros; apply a10_name_Split; apply g_name_Split (C := C10) (F := F10)  <;> assumption
theorem t10_slices_IndexFunc : S_idxF C10 (C10 (F10 n_slices_IndexFunc_string_string)) := by unfold S_idxF; intros; apply a10_slices_IndexFunc_string_string; apply g_slices_IndexFunc (C := C10) (F := F10)  <;> assumption
theorem t10_slices_ContainsFunc : S_conF C10 (C10 (F10 n_slices_ContainsFunc_string_string)) := by unfold S_conF; intros; apply a10_slices_ContainsFunc_string_string; apply g_slices_ContainsFunc (C := C10) (F := F10) t10_slices_IndexFunc <;> assumption
theorem t10_utf8_Decode : S_dec (C10 (F10 n_unicode_utf8_DecodeRuneInString)) := by unfold S_dec; intros; apply a10_unicode_utf8_DecodeRuneInString; apply g_utf8_Decode (C := C10) (F := F10) t10_slow <;> assumption
theorem t10_name_Runes : S_runes .i32 (C10 (F10 n_name_Runes)) := by unfold S_runes; intros; apply a10_name_Runes; apply g_name_Runes (C := C10) (F := F10) t10_utf8_Decode <;> assumption
theorem t10_name_may : S_may .i32 (C10 (F10 n_name_may)) := by unfold S_may; intros; apply a10_name_may; apply g_name_may (C := C10) (F := F10)  <;> assumption
theorem t10_name_Right : S_right (C10 (F10 n_name_Right)) := by unfold S_right; intros; apply a10_name_Right; apply g_name_Right (C := C10) (F := F10) t10_name_Runes t10_name_may <;> assumption
theorem t10_path_Check_1 : S_notRight (C10 (F10 n_path_Check_1)) := by unfold S_notRight; intros; apply a10_path_Check_1; apply g_path_Check_1 (C := C10) (F := F10) t10_name_Right <;> assumption
theorem t10_path_Check : S_pCheck (C10 (F10 n_path_Check)) := by unfold S_pCheck; intros; apply a10_path_Check; apply g_path_Check (C := C10) (F := F10) t10_slices_ContainsFunc t10_path_Check_1 <;> assumption
theorem t10_path_Parse : S_pParse (C10 (F10 n_path_Parse)) := by unfold S_pParse; intros; apply a10_path_Parse; apply g_path_Parse (C := C10) (F := F10) t10_name_Split t10_path_Check <;> assumption
theorem t10_pref03_Same : S_xSame (C10 (F10 n_pref03_Same)) := by unfold S_xSame; intros; apply a10_pref03_Same; apply g_pref03_Same (C := C10) (F := F10)  <;> assumption
theorem t10_WriteByte : S_WriteByte (F10 n_T_strings_Builder) (F10 n_T_uint8) (C10 (F10 n_strings_Builder_WriteByte)) := by unfold S_WriteByte; intros; apply a10_strings_Builder_WriteByte; apply g_WriteByte (C := C10) (F := F10) t10_copyCheck <;> assumption
theorem t10_name_Quote : S_quote (C10 (F10 n_name_Quote)) := by unfold S_quote; intros; apply a10_name_Quote; apply g_name_Quote (C := C10) (F := F10) t10_WriteByte t10_BString <;> assumption
theorem t10_path_Text : S_pText (C10 (F10 n_path_Text)) := by unfold S_pText; intros; apply a10_path_Text; apply g_path_Text (C := C10) (F := F10) t10_name_Quote t10_Join <;> assumption
theorem t10_slices_Equal : S_pSame (C10 (F10 n_slices_Equal_string_string)) := by unfold S_pSame; intros; apply a10_slices_Equal_string_string; apply g_slices_Equal (C := C10) (F := F10)  <;> assumption
theorem t10_path_Under : S_under (C10 (F10 n_path_Under)) := by unfold S_under; intros; apply a10_path_Under; apply g_path_Under (C := C10) (F := F10) t10_slices_Equal <;> assumption
theorem t10_plaw10_awake : S_yes (C10 (F10 n_plaw10_awake)) := by unfold S_yes; intros; apply a10_plaw10_awake; apply g_plaw10_awake (C := C10) (F := F10) t10_path_Parse t10_pref03_Same t10_path_Text t10_path_Check t10_path_Under <;> assumption
theorem t10_pref03_Split : S_split (C10 (F10 n_pref03_Split)) := by unfold S_split; intros; apply a10_pref03_Split; apply g_pref03_Split (C := C10) (F := F10)  <;> assumption
theorem t10_pref03_Char : S_chr (C10 (F10 n_pref03_Char)) := by unfold S_chr; intros; apply a10_pref03_Char; apply g_pref03_Char (C := C10) (F := F10)  <;> assumption
theorem t10_pref03_Runes : S_runes .i64 (C10 (F10 n_pref03_Runes)) := by unfold S_runes; intros; apply a10_pref03_Runes; apply g_pref03_Runes (C := C10) (F := F10) t10_pref03_Char <;> assumption
theorem t10_pref03_may : S_may .i64 (C10 (F10 n_pref03_may)) := by unfold S_may; intros; apply a10_pref03_may; apply g_pref03_may (C := C10) (F := F10)  <;> assumption
theorem t10_pref03_Right : S_right (C10 (F10 n_pref03_Right)) := by unfold S_right; intros; apply a10_pref03_Right; apply g_pref03_Right (C := C10) (F := F10) t10_pref03_Runes t10_pref03_may <;> assumption
theorem t10_pref10_Check : S_pCheck (C10 (F10 n_pref10_Check)) := by unfold S_pCheck; intros; apply a10_pref10_Check; apply g_pref10_Check (C := C10) (F := F10) t10_pref03_Right <;> assumption
theorem t10_pref10_Parse : S_pParse (C10 (F10 n_pref10_Parse)) := by unfold S_pParse; intros; apply a10_pref10_Parse; apply g_pref10_Parse (C := C10) (F := F10) t10_pref03_Split t10_pref10_Check <;> assumption
theorem t10_PathParses : S_n1 (C10 (F10 n_plaw10_PathParses)) := by unfold S_n1; intros; apply a10_plaw10_PathParses; apply g_PathParses (C := C10) (F := F10) t10_plaw10_awake t10_path_Parse t10_pref10_Parse t10_pref03_Same <;> assumption
theorem t10_pref10_Short : S_pShort (C10 (F10 n_pref10_Short)) := by unfold S_pShort; intros; apply a10_pref10_Short; apply g_pref10_Short (C := C10) (F := F10)  <;> assumption
theorem t10_cmp_isNaN_string : S_sNaN (C10 (F10 n_cmp_isNaN_string)) := by unfold S_sNaN; intros; apply a10_cmp_isNaN_string; apply g_cmp_isNaN_string (C := C10) (F := F10)  <;> assumption
theorem t10_cmp_Compare_string : S_tcmp (C10 (F10 n_cmp_Compare_string)) := by unfold S_tcmp; intros; apply a10_cmp_Compare_string; apply g_cmp_Compare_string (C := C10) (F := F10) t10_cmp_isNaN_string <;> assumption
theorem t10_slices_Compare : S_pCmp (C10 (F10 n_slices_Compare_string_string)) := by unfold S_pCmp; intros; apply a10_slices_Compare_string_string; apply g_slices_Compare (C := C10) (F := F10) t10_cmp_Compare_string <;> assumption
theorem t10_path_Compare : S_pCmp (C10 (F10 n_path_Compare)) := by unfold S_pCmp; intros; apply a10_path_Compare; apply g_path_Compare (C := C10) (F := F10) t10_slices_Compare <;> assumption
theorem t10_path_Same : S_pSame (C10 (F10 n_path_Same)) := by unfold S_pSame; intros; apply a10_path_Same; apply g_path_Same (C := C10) (F := F10) t10_slices_Equal <;> assumption
theorem t10_PathRow : S_p3 (C10 (F10 n_plaw10_PathRow)) := by unfold S_p3; intros; apply a10_plaw10_PathRow; apply g_PathRow (C := C10) (F := F10) t10_plaw10_awake t10_pref10_Short t10_path_Compare t10_path_Same t10_path_Under <;> assumption
theorem t10_pref09_ints : S_ints (C10 (F10 n_pref09_ints)) := by unfold S_ints; intros; apply a10_pref09_ints; apply g_pref09_ints (C := C10) (F := F10)  <;> assumption
theorem t10_pref09_Texts : S_tcmp (C10 (F10 n_pref09_Texts)) := by unfold S_tcmp; intros; apply a10_pref09_Texts; apply g_pref09_Texts (C := C10) (F := F10) t10_pref09_ints <;> assumption
theorem t10_pref10_Compare : S_pCmp (C10 (F10 n_pref10_Compare)) := by unfold S_pCmp; intros; apply a10_pref10_Compare; apply g_pref10_Compare (C := C10) (F := F10) t10_pref09_Texts <;> assumption
theorem t10_pref10_Under : S_under (C10 (F10 n_pref10_Under)) := by unfold S_under; intros; apply a10_pref10_Under; apply g_pref10_Under (C := C10) (F := F10)  <;> assumption
theorem t10_pref03_Quote : S_quote (C10 (F10 n_pref03_Quote)) := by unfold S_quote; intros; apply a10_pref03_Quote; apply g_pref03_Quote (C := C10) (F := F10)  <;> assumption
theorem t10_pref10_Text : S_pText (C10 (F10 n_pref10_Text)) := by unfold S_pText; intros; apply a10_pref10_Text; apply g_pref10_Text (C := C10) (F := F10) t10_pref03_Quote <;> assumption
theorem t10_pack_Int : S_i2s (C10 (F10 n_pack_Int)) := by unfold S_i2s; intros; apply a10_pack_Int; apply g_pack_Int (C := C10) (F := F10) t10_WriteByte t10_BString <;> assumption
theorem t10_pack_Text : S_ptext (C10 (F10 n_pack_Text)) := by unfold S_ptext; intros; apply a10_pack_Text; apply g_pack_Text (C := C10) (F := F10) t10_pack_Int <;> assumption
theorem t10_path_Code : S_pCode (C10 (F10 n_path_Code)) := by unfold S_pCode; intros; apply a10_path_Code; apply g_path_Code (C := C10) (F := F10) t10_pack_Int t10_pack_Text <;> assumption
theorem t10_pref02_Int : S_i2s (C10 (F10 n_pref02_Int)) := rec_pref02_Int (C := C10) (F := F10) (fun _ _ _ h => a10_pref02_Int h) 
theorem t10_pref02_Text : S_ptext (C10 (F10 n_pref02_Text)) := by unfold S_ptext; intros; apply a10_pref02_Text; apply g_pref02_Text (C := C10) (F := F10) t10_pref02_Int <;> assumption
theorem t10_pref10_Code : S_pCode (C10 (F10 n_pref10_Code)) := by unfold S_pCode; intros; apply a10_pref10_Code; apply g_pref10_Code (C := C10) (F := F10) t10_pref02_Int t10_pref02_Text <;> assumption
theorem t10_PathTells : S_p2 (C10 (F10 n_plaw10_PathTells)) := by unfold S_p2; intros; apply a10_plaw10_PathTells; apply g_PathTells (C := C10) (F := F10) t10_plaw10_awake t10_pref10_Short t10_path_Check t10_pref10_Check t10_path_Compare t10_pref10_Compare t10_path_Same t10_pref03_Same t10_path_Under t10_pref10_Under t10_path_Text t10_pref10_Text t10_path_Code t10_pref10_Code <;> assumption
theorem t10_Open : S_Open (C10 (F10 n_pack_Open)) := by unfold S_Open; intros; apply a10_pack_Open; apply g_Open (C := C10) (F := F10)  <;> assumption
theorem t10_fine : S_fine (C10 (F10 n_pack_Reader_fine)) := by unfold S_fine; intros; apply a10_pack_Reader_fine; apply g_fine (C := C10) (F := F10)  <;> assumption
theorem t10_Fail : S_Fail (C10 (F10 n_pack_Reader_Fail)) := by unfold S_Fail; intros; apply a10_pack_Reader_Fail; apply g_Fail (C := C10) (F := F10) t10_fine <;> assumption
theorem t10_rInt : S_rInt (C10 (F10 n_pack_Reader_Int)) := by unfold S_rInt; intros; apply a10_pack_Reader_Int; apply g_rInt (C := C10) (F := F10) t10_fine t10_Fail <;> assumption
theorem t10_rMany : S_rMany (C10 (F10 n_pack_Reader_Many)) := by unfold S_rMany; intros; apply a10_pack_Reader_Many; apply g_rMany (C := C10) (F := F10) t10_rInt t10_fine t10_Fail <;> assumption
theorem t10_rText : S_rText (C10 (F10 n_pack_Reader_Text)) := by unfold S_rText; intros; apply a10_pack_Reader_Text; apply g_rText (C := C10) (F := F10) t10_rInt t10_fine t10_Fail <;> assumption
theorem t10_Fault : S_Fault (C10 (F10 n_pack_Reader_Fault)) := by unfold S_Fault; intros; apply a10_pack_Reader_Fault; apply g_Fault (C := C10) (F := F10)  <;> assumption
theorem t10_path_Read : S_pRead (C10 (F10 n_path_Read)) := by unfold S_pRead; intros; apply a10_path_Read; apply g_path_Read (C := C10) (F := F10) t10_rMany t10_rText t10_Fault t10_path_Check t10_Fail <;> assumption
theorem t10_XInt : S_XInt (C10 (F10 n_pref02_Reader_Int)) := by unfold S_XInt; intros; apply a10_pref02_Reader_Int; apply g_XInt (C := C10) (F := F10)  <;> assumption
theorem t10_XMany : S_XMany (C10 (F10 n_pref02_Reader_Many)) := by unfold S_XMany; intros; apply a10_pref02_Reader_Many; apply g_XMany (C := C10) (F := F10) t10_XInt <;> assumption
theorem t10_XText : S_XText (C10 (F10 n_pref02_Reader_Text)) := by unfold S_XText; intros; apply a10_pref02_Reader_Text; apply g_XText (C := C10) (F := F10) t10_XInt <;> assumption
theorem t10_XFail : S_XFail (C10 (F10 n_pref02_Reader_Fail)) := by unfold S_XFail; intros; apply a10_pref02_Reader_Fail; apply g_XFail (C := C10) (F := F10)  <;> assumption
theorem t10_pref10_Read : S_XPath (C10 (F10 n_pref10_Read)) := by unfold S_XPath; intros; apply a10_pref10_Read; apply g_pref10_Read (C := C10) (F := F10) t10_XMany t10_XText t10_pref10_Check t10_XFail <;> assumption
theorem t10_Left : S_Left (C10 (F10 n_pack_Reader_Left)) := by unfold S_Left; intros; apply a10_pack_Reader_Left; apply g_Left (C := C10) (F := F10) t10_fine <;> assumption
theorem t10_XLeft : S_XLeft (C10 (F10 n_pref02_Reader_Left)) := by unfold S_XLeft; intros; apply a10_pref02_Reader_Left; apply g_XLeft (C := C10) (F := F10)  <;> assumption
theorem t10_PathReads : S_n1 (C10 (F10 n_plaw10_PathReads)) := by unfold S_n1; intros; apply a10_plaw10_PathReads; apply g_PathReads (C := C10) (F := F10) t10_plaw10_awake t10_Open t10_path_Read t10_pref10_Read t10_pref03_Same t10_Fault t10_Left t10_XLeft <;> assumption
theorem t10_End : S_End (C10 (F10 n_pack_Reader_End)) := by unfold S_End; intros; apply a10_pack_Reader_End; apply g_End (C := C10) (F := F10) t10_Left t10_Fail t10_Fault <;> assumption
theorem t10_PathBack : S_pBack (C10 (F10 n_plaw10_PathBack)) := by unfold S_pBack; intros; apply a10_plaw10_PathBack; apply g_PathBack (C := C10) (F := F10) t10_plaw10_awake t10_pref10_Check t10_path_Text t10_path_Parse t10_path_Code t10_Open t10_pref03_Same t10_path_Read t10_End <;> assumption
end Go.AR
