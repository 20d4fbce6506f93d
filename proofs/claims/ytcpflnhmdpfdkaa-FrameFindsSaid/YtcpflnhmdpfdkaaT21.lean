import Derived.Test.YtcpflnhmdpfdkaaP21f
import Derived.Test.YtcpflnhmdpfdkaaZ21
import Derived.Test.YtcpflnhmdpfdkaaB21
set_option linter.all false
/-! The contracts of the seat. Printed by program. -/
namespace Go.AR
open Go Go.Proofs
theorem t21_Open : S_Open (C21 (F21 n_pack_Open)) := by unfold S_Open; intros; apply a21_pack_Open; apply g_Open (C := C21) (F := F21)  <;> assumption
theorem t21_fine : S_fine (C21 (F21 n_pack_Reader_fine)) := by unfold S_fine; intros; apply a21_pack_Reader_fine; apply g_fine (C := C21) (F := F21)  <;> assumption
theorem t21_Fail : S_Fail (C21 (F21 n_pack_Reader_Fail)) := by unfold S_Fail; intros; apply a21_pack_Reader_Fail; apply g_Fail (C := C21) (F := F21) t21_fine <;> assumption
theorem t21_rInt : S_rInt (C21 (F21 n_pack_Reader_Int)) := by unfold S_rInt; intros; apply a21_pack_Reader_Int; apply g_rInt (C := C21) (F := F21) t21_fine t21_Fail <;> assumption
theorem t21_Left : S_Left (C21 (F21 n_pack_Reader_Left)) := by unfold S_Left; intros; apply a21_pack_Reader_Left; apply g_Left (C := C21) (F := F21) t21_fine <;> assumption
theorem t21_Fault : S_Fault (C21 (F21 n_pack_Reader_Fault)) := by unfold S_Fault; intros; apply a21_pack_Reader_Fault; apply g_Fault (C := C21) (F := F21)  <;> assumption
theorem t21_sum_table : S_table (C21 (F21 n_sum_table)) := by unfold S_table; intros; apply a21_sum_table; apply g_sum_table (C := C21) (F := F21)  <;> assumption
theorem t21_sum_More : S_more (C21 (F21 n_sum_More)) := by unfold S_more; intros; apply a21_sum_More; apply g_sum_More (C := C21) (F := F21) t21_sum_table <;> assumption
theorem t21_sum_Of : S_of (C21 (F21 n_sum_Of)) := by unfold S_of; intros; apply a21_sum_Of; apply g_sum_Of (C := C21) (F := F21) t21_sum_More <;> assumption
theorem t21_sum_Bytes : S_bytes (C21 (F21 n_sum_Bytes)) := by unfold S_bytes; intros; apply a21_sum_Bytes; apply g_sum_Bytes (C := C21) (F := F21)  <;> assumption
theorem t21_sum_Open : S_open (C21 (F21 n_sum_Open)) := by unfold S_open; intros; apply a21_sum_Open; apply g_sum_Open (C := C21) (F := F21) t21_sum_Of t21_sum_Bytes <;> assumption
theorem t21_frame_Cut : S_fCut (C21 (F21 n_frame_Cut)) := by unfold S_fCut; intros; apply a21_frame_Cut; apply g_frame_Cut (C := C21) (F := F21) t21_Open t21_rInt t21_Left t21_Fault t21_sum_Open <;> assumption
theorem t21_WriteByte : S_WriteByte (F21 n_T_strings_Builder) (F21 n_T_uint8) (C21 (F21 n_strings_Builder_WriteByte)) := by unfold S_WriteByte; intros; apply a21_strings_Builder_WriteByte; apply g_WriteByte (C := C21) (F := F21) t21_copyCheck <;> assumption
theorem t21_pack_Int : S_i2s (C21 (F21 n_pack_Int)) := by unfold S_i2s; intros; apply a21_pack_Int; apply g_pack_Int (C := C21) (F := F21) t21_WriteByte t21_BString <;> assumption
theorem t21_pack_Text : S_ptext (C21 (F21 n_pack_Text)) := by unfold S_ptext; intros; apply a21_pack_Text; apply g_pack_Text (C := C21) (F := F21) t21_pack_Int <;> assumption
theorem t21_sum_Sealed : S_strstr (C21 (F21 n_sum_Sealed)) sealed := by unfold S_strstr; intros; apply a21_sum_Sealed; apply g_sum_Sealed (C := C21) (F := F21) t21_sum_Of t21_sum_Bytes <;> assumption
theorem t21_frame_Of : S_fOf (C21 (F21 n_frame_Of)) := by unfold S_fOf; intros; apply a21_frame_Of; apply g_frame_Of (C := C21) (F := F21) t21_pack_Text t21_sum_Sealed <;> assumption
theorem t21_law21_awake : S_yes (C21 (F21 n_plaw21_awake)) := by unfold S_yes; intros; apply a21_plaw21_awake; apply g_law21_awake (C := C21) (F := F21) t21_frame_Cut t21_frame_Of <;> assumption
theorem t21_xInt : S_xInt (C21 (F21 n_pref02_Reader_Int)) := by unfold S_xInt; intros; apply a21_pref02_Reader_Int; apply g_xInt (C := C21) (F := F21)  <;> assumption
theorem t21_pref01_More : S_more (C21 (F21 n_pref01_More)) := by unfold S_more; intros; apply a21_pref01_More; apply g_pref01_More (C := C21) (F := F21)  <;> assumption
theorem t21_pref01_Of : S_of (C21 (F21 n_pref01_Of)) := by unfold S_of; intros; apply a21_pref01_Of; apply g_pref01_Of (C := C21) (F := F21) t21_pref01_More <;> assumption
theorem t21_pref01_Bytes : S_bytes (C21 (F21 n_pref01_Bytes)) := by unfold S_bytes; intros; apply a21_pref01_Bytes; apply g_pref01_Bytes (C := C21) (F := F21)  <;> assumption
theorem t21_pref21_Cut : S_fCut (C21 (F21 n_pref21_Cut)) := by unfold S_fCut; intros; apply a21_pref21_Cut; apply g_pref21_Cut (C := C21) (F := F21) t21_xInt t21_pref01_Of t21_pref01_Bytes <;> assumption
theorem t21_frame_Scan : S_fScan (C21 (F21 n_frame_Scan)) := by unfold S_fScan; intros; apply a21_frame_Scan; apply g_frame_Scan (C := C21) (F := F21) t21_frame_Cut <;> assumption
theorem t21_pref21_Scan : S_fScan (C21 (F21 n_pref21_Scan)) := by unfold S_fScan; intros; apply a21_pref21_Scan; apply g_pref21_Scan (C := C21) (F := F21) t21_pref21_Cut <;> assumption
theorem t21_pref02_Int : S_i2s (C21 (F21 n_pref02_Int)) := rec_pref02_Int (C := C21) (F := F21) (fun _ _ _ h => a21_pref02_Int h) 
theorem t21_pref02_Text : S_ptext (C21 (F21 n_pref02_Text)) := by unfold S_ptext; intros; apply a21_pref02_Text; apply g_pref02_Text (C := C21) (F := F21) t21_pref02_Int <;> assumption
theorem t21_pref21_Of : S_fOf (C21 (F21 n_pref21_Of)) := by unfold S_fOf; intros; apply a21_pref21_Of; apply g_pref21_Of (C := C21) (F := F21) t21_pref02_Text t21_pref01_Of t21_pref01_Bytes <;> assumption
theorem t21_pref03_Same : S_same (C21 (F21 n_pref03_Same)) := by unfold S_same; intros; apply a21_pref03_Same; apply g_pref03_Same (C := C21) (F := F21)  <;> assumption
theorem t21_FrameTells : S_lawF1 (C21 (F21 n_plaw21_FrameTells)) := by unfold S_lawF1; intros; apply a21_plaw21_FrameTells; apply g_FrameTells (C := C21) (F := F21) t21_law21_awake t21_frame_Cut t21_pref21_Cut t21_frame_Scan t21_pref21_Scan t21_frame_Of t21_pref21_Of t21_pref03_Same <;> assumption
theorem t21_law21_joined : S_joined (C21 (F21 n_plaw21_joined)) := by unfold S_joined; intros; apply a21_plaw21_joined; apply g_law21_joined (C := C21) (F := F21) t21_frame_Of <;> assumption
theorem t21_FrameBack : S_lawF2 (C21 (F21 n_plaw21_FrameBack)) := by unfold S_lawF2; intros; apply a21_plaw21_FrameBack; apply g_FrameBack (C := C21) (F := F21) t21_law21_awake t21_law21_joined t21_frame_Scan t21_pref03_Same <;> assumption
theorem t21_FrameTorn : S_lawF3 (C21 (F21 n_plaw21_FrameTorn)) := by unfold S_lawF3; intros; apply a21_plaw21_FrameTorn; apply g_FrameTorn (C := C21) (F := F21) t21_law21_awake t21_law21_joined t21_frame_Scan t21_frame_Of t21_pref03_Same <;> assumption
theorem t21_pref01_Changed : S_changed (C21 (F21 n_pref01_Changed)) := by unfold S_changed; intros; apply a21_pref01_Changed; apply g_pref01_Changed (C := C21) (F := F21)  <;> assumption
theorem t21_FrameFinds : S_lawF4 (C21 (F21 n_plaw21_FrameFinds)) := by unfold S_lawF4; intros; apply a21_plaw21_FrameFinds; apply g_FrameFinds (C := C21) (F := F21) t21_law21_awake t21_law21_joined t21_frame_Cut t21_frame_Scan t21_frame_Of t21_pref01_Changed t21_pref03_Same <;> assumption
end Go.AR
