import Derived.Test.YtcpflnhmdpfdkaaFun
import Derived.Test.YtcpflnhmdpfdkaaK01
import Derived.Test.YtcpflnhmdpfdkaaK02
import Derived.Test.YtcpflnhmdpfdkaaK21
import Derived.Test.YtcpflnhmdpfdkaaKx02
import Derived.Test.YtcpflnhmdpfdkaaSeat21
set_option linter.all false
namespace Go.AR
open Go Go.Proofs
theorem ok21_pack_Open : cFun Try.prog H_pack_Open Try.f17 = some (c_pack_Open F21) := by kernel_rfl
theorem a21_pack_Open {xs : List Arg} {rv : RV} {outs : List Blk} (h : (c_pack_Open F21).gives (ACall Try.prog) xs rv outs) : ACall Try.prog (F21 n_pack_Open) xs rv outs := acall_of mix21 Try.func17 ok21_pack_Open h
theorem ok21_pack_Reader_fine : cFun Try.prog H_pack_Reader_fine Try.f28 = some (c_pack_Reader_fine F21) := by kernel_rfl
theorem a21_pack_Reader_fine {xs : List Arg} {rv : RV} {outs : List Blk} (h : (c_pack_Reader_fine F21).gives (ACall Try.prog) xs rv outs) : ACall Try.prog (F21 n_pack_Reader_fine) xs rv outs := acall_of mix21 Try.func28 ok21_pack_Reader_fine h
theorem ok21_pack_Reader_Fail : cFun Try.prog H_pack_Reader_Fail Try.f29 = some (c_pack_Reader_Fail F21) := by kernel_rfl
theorem a21_pack_Reader_Fail {xs : List Arg} {rv : RV} {outs : List Blk} (h : (c_pack_Reader_Fail F21).gives (ACall Try.prog) xs rv outs) : ACall Try.prog (F21 n_pack_Reader_Fail) xs rv outs := acall_of mix21 Try.func29 ok21_pack_Reader_Fail h
theorem ok21_pack_Reader_Int : cFun Try.prog H_pack_Reader_Int Try.f18 = some (c_pack_Reader_Int F21) := by kernel_rfl
theorem a21_pack_Reader_Int {xs : List Arg} {rv : RV} {outs : List Blk} (h : (c_pack_Reader_Int F21).gives (ACall Try.prog) xs rv outs) : ACall Try.prog (F21 n_pack_Reader_Int) xs rv outs := acall_of mix21 Try.func18 ok21_pack_Reader_Int h
theorem ok21_pack_Reader_Left : cFun Try.prog H_pack_Reader_Left Try.f19 = some (c_pack_Reader_Left F21) := by kernel_rfl
theorem a21_pack_Reader_Left {xs : List Arg} {rv : RV} {outs : List Blk} (h : (c_pack_Reader_Left F21).gives (ACall Try.prog) xs rv outs) : ACall Try.prog (F21 n_pack_Reader_Left) xs rv outs := acall_of mix21 Try.func19 ok21_pack_Reader_Left h
theorem ok21_pack_Reader_Fault : cFun Try.prog H_pack_Reader_Fault Try.f20 = some (c_pack_Reader_Fault F21) := by kernel_rfl
theorem a21_pack_Reader_Fault {xs : List Arg} {rv : RV} {outs : List Blk} (h : (c_pack_Reader_Fault F21).gives (ACall Try.prog) xs rv outs) : ACall Try.prog (F21 n_pack_Reader_Fault) xs rv outs := acall_of mix21 Try.func20 ok21_pack_Reader_Fault h
theorem ok21_sum_table : cFun Try.prog H_sum_table Try.f38 = some (c_sum_table F21) := by kernel_rfl
theorem a21_sum_table {xs : List Arg} {rv : RV} {outs : List Blk} (h : (c_sum_table F21).gives (ACall Try.prog) xs rv outs) : ACall Try.prog (F21 n_sum_table) xs rv outs := acall_of mix21 Try.func38 ok21_sum_table h
theorem ok21_sum_More : cFun Try.prog H_sum_More Try.f35 = some (c_sum_More F21) := by kernel_rfl
theorem a21_sum_More {xs : List Arg} {rv : RV} {outs : List Blk} (h : (c_sum_More F21).gives (ACall Try.prog) xs rv outs) : ACall Try.prog (F21 n_sum_More) xs rv outs := acall_of mix21 Try.func35 ok21_sum_More h
theorem ok21_sum_Of : cFun Try.prog H_sum_Of Try.f31 = some (c_sum_Of F21) := by kernel_rfl
theorem a21_sum_Of {xs : List Arg} {rv : RV} {outs : List Blk} (h : (c_sum_Of F21).gives (ACall Try.prog) xs rv outs) : ACall Try.prog (F21 n_sum_Of) xs rv outs := acall_of mix21 Try.func31 ok21_sum_Of h
theorem ok21_sum_Bytes : cFun Try.prog H_sum_Bytes Try.f30 = some (c_sum_Bytes F21) := by kernel_rfl
theorem a21_sum_Bytes {xs : List Arg} {rv : RV} {outs : List Blk} (h : (c_sum_Bytes F21).gives (ACall Try.prog) xs rv outs) : ACall Try.prog (F21 n_sum_Bytes) xs rv outs := acall_of mix21 Try.func30 ok21_sum_Bytes h
theorem ok21_sum_Open : cFun Try.prog H_sum_Open Try.f21 = some (c_sum_Open F21) := by kernel_rfl
theorem a21_sum_Open {xs : List Arg} {rv : RV} {outs : List Blk} (h : (c_sum_Open F21).gives (ACall Try.prog) xs rv outs) : ACall Try.prog (F21 n_sum_Open) xs rv outs := acall_of mix21 Try.func21 ok21_sum_Open h
theorem ok21_frame_Cut : cFun Try.prog H_frame_Cut Try.f8 = some (c_frame_Cut F21) := by kernel_rfl
theorem a21_frame_Cut {xs : List Arg} {rv : RV} {outs : List Blk} (h : (c_frame_Cut F21).gives (ACall Try.prog) xs rv outs) : ACall Try.prog (F21 n_frame_Cut) xs rv outs := acall_of mix21 Try.func8 ok21_frame_Cut h
theorem ok21_strings_Builder_WriteByte : cFun Try.prog H_strings_Builder_WriteByte Try.f36 = some (c_strings_Builder_WriteByte F21) := by kernel_rfl
theorem a21_strings_Builder_WriteByte {xs : List Arg} {rv : RV} {outs : List Blk} (h : (c_strings_Builder_WriteByte F21).gives (ACall Try.prog) xs rv outs) : ACall Try.prog (F21 n_strings_Builder_WriteByte) xs rv outs := acall_of mix21 Try.func36 ok21_strings_Builder_WriteByte h
theorem ok21_pack_Int : cFun Try.prog H_pack_Int Try.f33 = some (c_pack_Int F21) := by kernel_rfl
theorem a21_pack_Int {xs : List Arg} {rv : RV} {outs : List Blk} (h : (c_pack_Int F21).gives (ACall Try.prog) xs rv outs) : ACall Try.prog (F21 n_pack_Int) xs rv outs := acall_of mix21 Try.func33 ok21_pack_Int h
theorem ok21_pack_Text : cFun Try.prog H_pack_Text Try.f26 = some (c_pack_Text F21) := by kernel_rfl
theorem a21_pack_Text {xs : List Arg} {rv : RV} {outs : List Blk} (h : (c_pack_Text F21).gives (ACall Try.prog) xs rv outs) : ACall Try.prog (F21 n_pack_Text) xs rv outs := acall_of mix21 Try.func26 ok21_pack_Text h
theorem ok21_sum_Sealed : cFun Try.prog H_sum_Sealed Try.f25 = some (c_sum_Sealed F21) := by kernel_rfl
theorem a21_sum_Sealed {xs : List Arg} {rv : RV} {outs : List Blk} (h : (c_sum_Sealed F21).gives (ACall Try.prog) xs rv outs) : ACall Try.prog (F21 n_sum_Sealed) xs rv outs := acall_of mix21 Try.func25 ok21_sum_Sealed h
theorem ok21_frame_Of : cFun Try.prog H_frame_Of Try.f12 = some (c_frame_Of F21) := by kernel_rfl
theorem a21_frame_Of {xs : List Arg} {rv : RV} {outs : List Blk} (h : (c_frame_Of F21).gives (ACall Try.prog) xs rv outs) : ACall Try.prog (F21 n_frame_Of) xs rv outs := acall_of mix21 Try.func12 ok21_frame_Of h
theorem ok21_plaw21_awake : cFun Try.prog H_plaw21_awake Try.f7 = some (c_plaw21_awake F21) := by kernel_rfl
theorem a21_plaw21_awake {xs : List Arg} {rv : RV} {outs : List Blk} (h : (c_plaw21_awake F21).gives (ACall Try.prog) xs rv outs) : ACall Try.prog (F21 n_plaw21_awake) xs rv outs := acall_of mix21 Try.func7 ok21_plaw21_awake h
theorem ok21_pref02_Reader_Int : cFun Try.prog H_pref02_Reader_Int Try.f22 = some (c_pref02_Reader_Int F21) := by kernel_rfl
theorem a21_pref02_Reader_Int {xs : List Arg} {rv : RV} {outs : List Blk} (h : (c_pref02_Reader_Int F21).gives (ACall Try.prog) xs rv outs) : ACall Try.prog (F21 n_pref02_Reader_Int) xs rv outs := acall_of mix21 Try.func22 ok21_pref02_Reader_Int h
theorem ok21_pref01_More : cFun Try.prog H_pref01_More Try.f32 = some (c_pref01_More F21) := by kernel_rfl
theorem a21_pref01_More {xs : List Arg} {rv : RV} {outs : List Blk} (h : (c_pref01_More F21).gives (ACall Try.prog) xs rv outs) : ACall Try.prog (F21 n_pref01_More) xs rv outs := acall_of mix21 Try.func32 ok21_pref01_More h
theorem ok21_pref01_Of : cFun Try.prog H_pref01_Of Try.f24 = some (c_pref01_Of F21) := by kernel_rfl
theorem a21_pref01_Of {xs : List Arg} {rv : RV} {outs : List Blk} (h : (c_pref01_Of F21).gives (ACall Try.prog) xs rv outs) : ACall Try.prog (F21 n_pref01_Of) xs rv outs := acall_of mix21 Try.func24 ok21_pref01_Of h
theorem ok21_pref01_Bytes : cFun Try.prog H_pref01_Bytes Try.f23 = some (c_pref01_Bytes F21) := by kernel_rfl
theorem a21_pref01_Bytes {xs : List Arg} {rv : RV} {outs : List Blk} (h : (c_pref01_Bytes F21).gives (ACall Try.prog) xs rv outs) : ACall Try.prog (F21 n_pref01_Bytes) xs rv outs := acall_of mix21 Try.func23 ok21_pref01_Bytes h
theorem ok21_pref21_Cut : cFun Try.prog H_pref21_Cut Try.f9 = some (c_pref21_Cut F21) := by kernel_rfl
theorem a21_pref21_Cut {xs : List Arg} {rv : RV} {outs : List Blk} (h : (c_pref21_Cut F21).gives (ACall Try.prog) xs rv outs) : ACall Try.prog (F21 n_pref21_Cut) xs rv outs := acall_of mix21 Try.func9 ok21_pref21_Cut h
theorem ok21_frame_Scan : cFun Try.prog H_frame_Scan Try.f10 = some (c_frame_Scan F21) := by kernel_rfl
theorem a21_frame_Scan {xs : List Arg} {rv : RV} {outs : List Blk} (h : (c_frame_Scan F21).gives (ACall Try.prog) xs rv outs) : ACall Try.prog (F21 n_frame_Scan) xs rv outs := acall_of mix21 Try.func10 ok21_frame_Scan h
theorem ok21_pref21_Scan : cFun Try.prog H_pref21_Scan Try.f11 = some (c_pref21_Scan F21) := by kernel_rfl
theorem a21_pref21_Scan {xs : List Arg} {rv : RV} {outs : List Blk} (h : (c_pref21_Scan F21).gives (ACall Try.prog) xs rv outs) : ACall Try.prog (F21 n_pref21_Scan) xs rv outs := acall_of mix21 Try.func11 ok21_pref21_Scan h
theorem ok21_pref02_Int : cFun Try.prog H_pref02_Int Try.f34 = some (c_pref02_Int F21) := by kernel_rfl
theorem a21_pref02_Int {xs : List Arg} {rv : RV} {outs : List Blk} (h : (c_pref02_Int F21).gives (ACall Try.prog) xs rv outs) : ACall Try.prog (F21 n_pref02_Int) xs rv outs := acall_of mix21 Try.func34 ok21_pref02_Int h
theorem ok21_pref02_Text : cFun Try.prog H_pref02_Text Try.f27 = some (c_pref02_Text F21) := by kernel_rfl
theorem a21_pref02_Text {xs : List Arg} {rv : RV} {outs : List Blk} (h : (c_pref02_Text F21).gives (ACall Try.prog) xs rv outs) : ACall Try.prog (F21 n_pref02_Text) xs rv outs := acall_of mix21 Try.func27 ok21_pref02_Text h
theorem ok21_pref21_Of : cFun Try.prog H_pref21_Of Try.f13 = some (c_pref21_Of F21) := by kernel_rfl
theorem a21_pref21_Of {xs : List Arg} {rv : RV} {outs : List Blk} (h : (c_pref21_Of F21).gives (ACall Try.prog) xs rv outs) : ACall Try.prog (F21 n_pref21_Of) xs rv outs := acall_of mix21 Try.func13 ok21_pref21_Of h
theorem ok21_pref03_Same : cFun Try.prog H_pref03_Same Try.f14 = some (c_pref03_Same F21) := by kernel_rfl
theorem a21_pref03_Same {xs : List Arg} {rv : RV} {outs : List Blk} (h : (c_pref03_Same F21).gives (ACall Try.prog) xs rv outs) : ACall Try.prog (F21 n_pref03_Same) xs rv outs := acall_of mix21 Try.func14 ok21_pref03_Same h
theorem ok21_plaw21_FrameTells : cFun Try.prog H_plaw21_FrameTells Try.f3 = some (c_plaw21_FrameTells F21) := by kernel_rfl
theorem a21_plaw21_FrameTells {xs : List Arg} {rv : RV} {outs : List Blk} (h : (c_plaw21_FrameTells F21).gives (ACall Try.prog) xs rv outs) : ACall Try.prog (F21 n_plaw21_FrameTells) xs rv outs := acall_of mix21 Try.func3 ok21_plaw21_FrameTells h
theorem ok21_plaw21_joined : cFun Try.prog H_plaw21_joined Try.f15 = some (c_plaw21_joined F21) := by kernel_rfl
theorem a21_plaw21_joined {xs : List Arg} {rv : RV} {outs : List Blk} (h : (c_plaw21_joined F21).gives (ACall Try.prog) xs rv outs) : ACall Try.prog (F21 n_plaw21_joined) xs rv outs := acall_of mix21 Try.func15 ok21_plaw21_joined h
theorem ok21_plaw21_FrameBack : cFun Try.prog H_plaw21_FrameBack Try.f4 = some (c_plaw21_FrameBack F21) := by kernel_rfl
theorem a21_plaw21_FrameBack {xs : List Arg} {rv : RV} {outs : List Blk} (h : (c_plaw21_FrameBack F21).gives (ACall Try.prog) xs rv outs) : ACall Try.prog (F21 n_plaw21_FrameBack) xs rv outs := acall_of mix21 Try.func4 ok21_plaw21_FrameBack h
theorem ok21_plaw21_FrameTorn : cFun Try.prog H_plaw21_FrameTorn Try.f5 = some (c_plaw21_FrameTorn F21) := by kernel_rfl
theorem a21_plaw21_FrameTorn {xs : List Arg} {rv : RV} {outs : List Blk} (h : (c_plaw21_FrameTorn F21).gives (ACall Try.prog) xs rv outs) : ACall Try.prog (F21 n_plaw21_FrameTorn) xs rv outs := acall_of mix21 Try.func5 ok21_plaw21_FrameTorn h
theorem ok21_pref01_Changed : cFun Try.prog H_pref01_Changed Try.f16 = some (c_pref01_Changed F21) := by kernel_rfl
theorem a21_pref01_Changed {xs : List Arg} {rv : RV} {outs : List Blk} (h : (c_pref01_Changed F21).gives (ACall Try.prog) xs rv outs) : ACall Try.prog (F21 n_pref01_Changed) xs rv outs := acall_of mix21 Try.func16 ok21_pref01_Changed h
theorem ok21_plaw21_FrameFinds : cFun Try.prog H_plaw21_FrameFinds Try.f6 = some (c_plaw21_FrameFinds F21) := by kernel_rfl
theorem a21_plaw21_FrameFinds {xs : List Arg} {rv : RV} {outs : List Blk} (h : (c_plaw21_FrameFinds F21).gives (ACall Try.prog) xs rv outs) : ACall Try.prog (F21 n_plaw21_FrameFinds) xs rv outs := acall_of mix21 Try.func6 ok21_plaw21_FrameFinds h
end Go.AR
