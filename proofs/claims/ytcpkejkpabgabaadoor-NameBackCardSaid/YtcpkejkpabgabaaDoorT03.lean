import Derived.Test.YtcpkejkpabgabaaDoorS03d
import Derived.Test.YtcpkejkpabgabaaDoorZ03
import Derived.Test.YtcpkejkpabgabaaDoorB03
import Derived.Test.YtcpkejkpabgabaaDoorU03
set_option linter.all false
/-! The contracts of the seat. Printed by program. -/
namespace Go.AR
open Go Go.Proofs
theorem t03_name_Split : S_split (C03 (F03 n_name_Split)) := by unfold S_split; intros; apply a03_name_Split; apply g_name_Split (C := C03) (F := F03)  <;> assumption
theorem t03_pref03_Same : S_xSame (C03 (F03 n_pref03_Same)) := by unfold S_xSame; intros; apply a03_pref03_Same; apply g_pref03_Same (C := C03) (F := F03)  <;> assumption
theorem t03_WriteByte : S_WriteByte (F03 n_T_strings_Builder) (F03 n_T_uint8) (C03 (F03 n_strings_Builder_WriteByte)) := by unfold S_WriteByte; intros; apply a03_strings_Builder_WriteByte; apply g_WriteByte (C := C03) (F := F03) t03_copyCheck <;> assumption
theorem t03_name_Quote : S_quote (C03 (F03 n_name_Quote)) := by unfold S_quote; intros; apply a03_name_Quote; apply g_name_Quote (C := C03) (F := F03) t03_WriteByte t03_BString <;> assumption
theorem t03_utf8_Decode : S_dec (C03 (F03 n_unicode_utf8_DecodeRuneInString)) := by unfold S_dec; intros; apply a03_unicode_utf8_DecodeRuneInString; apply g_utf8_Decode (C := C03) (F := F03) t03_slow <;> assumption
theorem t03_name_Runes : S_runes .i32 (C03 (F03 n_name_Runes)) := by unfold S_runes; intros; apply a03_name_Runes; apply g_name_Runes (C := C03) (F := F03) t03_utf8_Decode <;> assumption
theorem t03_name_may : S_may .i32 (C03 (F03 n_name_may)) := by unfold S_may; intros; apply a03_name_may; apply g_name_may (C := C03) (F := F03)  <;> assumption
theorem t03_name_Right : S_right (C03 (F03 n_name_Right)) := by unfold S_right; intros; apply a03_name_Right; apply g_name_Right (C := C03) (F := F03) t03_name_Runes t03_name_may <;> assumption
theorem t03_plaw03_awake : S_yes (C03 (F03 n_plaw03_awake)) := by unfold S_yes; intros; apply a03_plaw03_awake; apply g_plaw03_awake (C := C03) (F := F03) t03_name_Split t03_pref03_Same t03_name_Quote t03_name_Right <;> assumption
theorem t03_pref03_Char : S_chr (C03 (F03 n_pref03_Char)) := by unfold S_chr; intros; apply a03_pref03_Char; apply g_pref03_Char (C := C03) (F := F03)  <;> assumption
theorem t03_pref03_Runes : S_runes .i64 (C03 (F03 n_pref03_Runes)) := by unfold S_runes; intros; apply a03_pref03_Runes; apply g_pref03_Runes (C := C03) (F := F03) t03_pref03_Char <;> assumption
theorem t03_pref03_may : S_may .i64 (C03 (F03 n_pref03_may)) := by unfold S_may; intros; apply a03_pref03_may; apply g_pref03_may (C := C03) (F := F03)  <;> assumption
theorem t03_pref03_Right : S_right (C03 (F03 n_pref03_Right)) := by unfold S_right; intros; apply a03_pref03_Right; apply g_pref03_Right (C := C03) (F := F03) t03_pref03_Runes t03_pref03_may <;> assumption
theorem t03_name_Clean : S_clean (C03 (F03 n_name_Clean)) := by unfold S_clean; intros; apply a03_name_Clean; apply g_name_Clean (C := C03) (F := F03) t03_name_may <;> assumption
theorem t03_pref03_Clean : S_clean (C03 (F03 n_pref03_Clean)) := by unfold S_clean; intros; apply a03_pref03_Clean; apply g_pref03_Clean (C := C03) (F := F03) t03_pref03_Char t03_pref03_may <;> assumption
theorem t03_NameTells : S_n1 (C03 (F03 n_plaw03_NameTells)) := by unfold S_n1; intros; apply a03_plaw03_NameTells; apply g_NameTells (C := C03) (F := F03) t03_plaw03_awake t03_name_Runes t03_pref03_Runes t03_name_Right t03_pref03_Right t03_name_Clean t03_pref03_Clean <;> assumption
theorem t03_NameCleans : S_n1 (C03 (F03 n_plaw03_NameCleans)) := by unfold S_n1; intros; apply a03_plaw03_NameCleans; apply g_NameCleans (C := C03) (F := F03) t03_plaw03_awake t03_name_Right t03_name_Clean <;> assumption
theorem t03_pref03_Split : S_split (C03 (F03 n_pref03_Split)) := by unfold S_split; intros; apply a03_pref03_Split; apply g_pref03_Split (C := C03) (F := F03)  <;> assumption
theorem t03_pref03_Quote : S_quote (C03 (F03 n_pref03_Quote)) := by unfold S_quote; intros; apply a03_pref03_Quote; apply g_pref03_Quote (C := C03) (F := F03)  <;> assumption
theorem t03_NameSplits : S_n1 (C03 (F03 n_plaw03_NameSplits)) := by unfold S_n1; intros; apply a03_plaw03_NameSplits; apply g_NameSplits (C := C03) (F := F03) t03_plaw03_awake t03_name_Split t03_pref03_Split t03_name_Quote t03_pref03_Quote t03_pref03_Same <;> assumption
theorem t03_NameBack : S_nB (C03 (F03 n_plaw03_NameBack)) := by unfold S_nB; intros; apply a03_plaw03_NameBack; apply g_NameBack (C := C03) (F := F03) t03_plaw03_awake t03_name_Split t03_name_Quote t03_pref03_Same <;> assumption
end Go.AR
