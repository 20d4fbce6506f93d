import Derived.Test.YtfngbnjkacfebaaP02
import Derived.Test.YtfngbnjkacfebaaZ02
import Derived.Test.YtfngbnjkacfebaaB02
set_option linter.all false
/-! The contracts of the seat. Printed by program. -/
namespace Go.AR
open Go Go.Proofs
theorem t02_WriteByte : S_WriteByte (F02 n_T_strings_Builder) (F02 n_T_uint8) (C02 (F02 n_strings_Builder_WriteByte)) := by unfold S_WriteByte; intros; apply a02_strings_Builder_WriteByte; apply g_WriteByte (C := C02) (F := F02) t02_copyCheck <;> assumption
theorem t02_pack_Int : S_i2s (C02 (F02 n_pack_Int)) := by unfold S_i2s; intros; apply a02_pack_Int; apply g_pack_Int (C := C02) (F := F02) t02_WriteByte t02_BString <;> assumption
theorem t02_Open : S_Open (C02 (F02 n_pack_Open)) := by unfold S_Open; intros; apply a02_pack_Open; apply g_Open (C := C02) (F := F02)  <;> assumption
theorem t02_fine : S_fine (C02 (F02 n_pack_Reader_fine)) := by unfold S_fine; intros; apply a02_pack_Reader_fine; apply g_fine (C := C02) (F := F02)  <;> assumption
theorem t02_Fail : S_Fail (C02 (F02 n_pack_Reader_Fail)) := by unfold S_Fail; intros; apply a02_pack_Reader_Fail; apply g_Fail (C := C02) (F := F02) t02_fine <;> assumption
theorem t02_rInt : S_rInt (C02 (F02 n_pack_Reader_Int)) := by unfold S_rInt; intros; apply a02_pack_Reader_Int; apply g_rInt (C := C02) (F := F02) t02_fine t02_Fail <;> assumption
theorem t02_law02_awake : S_yes (C02 (F02 n_plaw02_awake)) := by unfold S_yes; intros; apply a02_plaw02_awake; apply g_law02_awake (C := C02) (F := F02) t02_pack_Int t02_Open t02_rInt <;> assumption
theorem t02_pref02_Int : S_i2s (C02 (F02 n_pref02_Int)) := rec_pref02_Int (C := C02) (F := F02) (fun _ _ _ h => a02_pref02_Int h) 
theorem t02_pack_Text : S_ptext (C02 (F02 n_pack_Text)) := by unfold S_ptext; intros; apply a02_pack_Text; apply g_pack_Text (C := C02) (F := F02) t02_pack_Int <;> assumption
theorem t02_pref02_Text : S_ptext (C02 (F02 n_pref02_Text)) := by unfold S_ptext; intros; apply a02_pref02_Text; apply g_pref02_Text (C := C02) (F := F02) t02_pref02_Int <;> assumption
theorem t02_PackTells : S_lawTells (C02 (F02 n_plaw02_PackTells)) := by unfold S_lawTells; intros; apply a02_plaw02_PackTells; apply g_PackTells (C := C02) (F := F02) t02_law02_awake t02_pack_Int t02_pref02_Int t02_pack_Text t02_pref02_Text <;> assumption
theorem t02_rText : S_rText (C02 (F02 n_pack_Reader_Text)) := by unfold S_rText; intros; apply a02_pack_Reader_Text; apply g_rText (C := C02) (F := F02) t02_rInt t02_fine t02_Fail <;> assumption
theorem t02_Left : S_Left (C02 (F02 n_pack_Reader_Left)) := by unfold S_Left; intros; apply a02_pack_Reader_Left; apply g_Left (C := C02) (F := F02) t02_fine <;> assumption
theorem t02_Fault : S_Fault (C02 (F02 n_pack_Reader_Fault)) := by unfold S_Fault; intros; apply a02_pack_Reader_Fault; apply g_Fault (C := C02) (F := F02)  <;> assumption
theorem t02_End : S_End (C02 (F02 n_pack_Reader_End)) := by unfold S_End; intros; apply a02_pack_Reader_End; apply g_End (C := C02) (F := F02) t02_Left t02_Fail t02_Fault <;> assumption
theorem t02_PackBack : S_lawBack (C02 (F02 n_plaw02_PackBack)) := by unfold S_lawBack; intros; apply a02_plaw02_PackBack; apply g_PackBack (C := C02) (F := F02) t02_law02_awake t02_pack_Int t02_pack_Text t02_Open t02_rInt t02_rText t02_Left t02_Fault t02_End <;> assumption
theorem t02_nfine : S_nfine (C02 (F02 n_pack_Reader_fine)) := by unfold S_nfine; intros; apply a02_pack_Reader_fine__nil; apply g_nfine (C := C02) (F := F02)  <;> assumption
theorem t02_nFail : S_nFail (C02 (F02 n_pack_Reader_Fail)) := by unfold S_nFail; intros; apply a02_pack_Reader_Fail__nil; apply g_nFail (C := C02) (F := F02) t02_nfine <;> assumption
theorem t02_nInt : S_nInt (C02 (F02 n_pack_Reader_Int)) := by unfold S_nInt; intros; apply a02_pack_Reader_Int__nil; apply g_nInt (C := C02) (F := F02) t02_nfine <;> assumption
theorem t02_nText : S_nText (C02 (F02 n_pack_Reader_Text)) := by unfold S_nText; intros; apply a02_pack_Reader_Text__nil; apply g_nText (C := C02) (F := F02) t02_nInt t02_nfine <;> assumption
theorem t02_nMany : S_nMany (C02 (F02 n_pack_Reader_Many)) := by unfold S_nMany; intros; apply a02_pack_Reader_Many__nil; apply g_nMany (C := C02) (F := F02) t02_nInt t02_nfine <;> assumption
theorem t02_nLeft : S_nInt (C02 (F02 n_pack_Reader_Left)) := by unfold S_nInt; intros; apply a02_pack_Reader_Left__nil; apply g_nLeft (C := C02) (F := F02) t02_nfine <;> assumption
theorem t02_nFault : S_nFault (C02 (F02 n_pack_Reader_Fault)) := by unfold S_nFault; intros; apply a02_pack_Reader_Fault__nil; apply g_nFault (C := C02) (F := F02)  <;> assumption
theorem t02_nEnd : S_nFault (C02 (F02 n_pack_Reader_End)) := by unfold S_nFault; intros; apply a02_pack_Reader_End__nil; apply g_nEnd (C := C02) (F := F02) t02_nLeft t02_nFault <;> assumption
theorem t02_PackOnce : S_lawOnce (C02 (F02 n_plaw02_PackOnce)) := by unfold S_lawOnce; intros; apply a02_plaw02_PackOnce; apply g_PackOnce (C := C02) (F := F02) t02_law02_awake t02_pack_Int t02_pack_Text t02_Open t02_rInt t02_rText t02_Left t02_Fault t02_nFail t02_nInt t02_nText t02_nMany t02_nLeft t02_nFault t02_nEnd <;> assumption
end Go.AR
