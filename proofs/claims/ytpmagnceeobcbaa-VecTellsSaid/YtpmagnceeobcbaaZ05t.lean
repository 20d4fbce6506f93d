import Derived.Test.YtpmagnceeobcbaaFun
import Derived.Test.YtpmagnceeobcbaaK02
import Derived.Test.YtpmagnceeobcbaaKp05
import Derived.Test.YtpmagnceeobcbaaKvec
import Derived.Test.YtpmagnceeobcbaaSeat05
set_option linter.all false
namespace Go.AR
open Go Go.Proofs
theorem ok05_vec_both : cFun Try.prog H_vec_both Try.f21 = some (c_vec_both F05) := by kernel_rfl
theorem a05_vec_both {xs : List Arg} {rv : RV} {outs : List Blk} (h : (c_vec_both F05).gives (ACall Try.prog) xs rv outs) : ACall Try.prog (F05 n_vec_both) xs rv outs := acall_of mix05 Try.func21 ok05_vec_both h
theorem ok05_vec_Join_1 : cFun Try.prog H_vec_Join_1 Try.f22 = some (c_vec_Join_1 F05) := by kernel_rfl
theorem a05_vec_Join_1 {xs : List Arg} {rv : RV} {outs : List Blk} (h : (c_vec_Join_1 F05).gives (ACall Try.prog) xs rv outs) : ACall Try.prog (F05 n_vec_Join_1) xs rv outs := acall_of mix05 Try.func22 ok05_vec_Join_1 h
theorem ok05_vec_Join : cFun Try.prog H_vec_Join Try.f6 = some (c_vec_Join F05) := by kernel_rfl
theorem a05_vec_Join {xs : List Arg} {rv : RV} {outs : List Blk} (h : (c_vec_Join F05).gives (ACall Try.prog) xs rv outs) : ACall Try.prog (F05 n_vec_Join) xs rv outs := acall_of mix05 Try.func6 ok05_vec_Join h
theorem ok05_dot_Right : cFun Try.prog H_dot_Right Try.f24 = some (c_dot_Right F05) := by kernel_rfl
theorem a05_dot_Right {xs : List Arg} {rv : RV} {outs : List Blk} (h : (c_dot_Right F05).gives (ACall Try.prog) xs rv outs) : ACall Try.prog (F05 n_dot_Right) xs rv outs := acall_of mix05 Try.func24 ok05_dot_Right h
theorem ok05_vec_Has : cFun Try.prog H_vec_Has Try.f10 = some (c_vec_Has F05) := by kernel_rfl
theorem a05_vec_Has {xs : List Arg} {rv : RV} {outs : List Blk} (h : (c_vec_Has F05).gives (ACall Try.prog) xs rv outs) : ACall Try.prog (F05 n_vec_Has) xs rv outs := acall_of mix05 Try.func10 ok05_vec_Has h
theorem ok05_plaw05_awake : cFun Try.prog H_plaw05_awake Try.f9 = some (c_plaw05_awake F05) := by kernel_rfl
theorem a05_plaw05_awake {xs : List Arg} {rv : RV} {outs : List Blk} (h : (c_plaw05_awake F05).gives (ACall Try.prog) xs rv outs) : ACall Try.prog (F05 n_plaw05_awake) xs rv outs := acall_of mix05 Try.func9 ok05_plaw05_awake h
theorem ok05_vec_Right : cFun Try.prog H_vec_Right Try.f11 = some (c_vec_Right F05) := by kernel_rfl
theorem a05_vec_Right {xs : List Arg} {rv : RV} {outs : List Blk} (h : (c_vec_Right F05).gives (ACall Try.prog) xs rv outs) : ACall Try.prog (F05 n_vec_Right) xs rv outs := acall_of mix05 Try.func11 ok05_vec_Right h
theorem ok05_pref05_Right : cFun Try.prog H_pref05_Right Try.f12 = some (c_pref05_Right F05) := by kernel_rfl
theorem a05_pref05_Right {xs : List Arg} {rv : RV} {outs : List Blk} (h : (c_pref05_Right F05).gives (ACall Try.prog) xs rv outs) : ACall Try.prog (F05 n_pref05_Right) xs rv outs := acall_of mix05 Try.func12 ok05_pref05_Right h
theorem ok05_pref04_Right : cFun Try.prog H_pref04_Right Try.f25 = some (c_pref04_Right F05) := by kernel_rfl
theorem a05_pref04_Right {xs : List Arg} {rv : RV} {outs : List Blk} (h : (c_pref04_Right F05).gives (ACall Try.prog) xs rv outs) : ACall Try.prog (F05 n_pref04_Right) xs rv outs := acall_of mix05 Try.func25 ok05_pref04_Right h
theorem ok05_pref05_Has : cFun Try.prog H_pref05_Has Try.f13 = some (c_pref05_Has F05) := by kernel_rfl
theorem a05_pref05_Has {xs : List Arg} {rv : RV} {outs : List Blk} (h : (c_pref05_Has F05).gives (ACall Try.prog) xs rv outs) : ACall Try.prog (F05 n_pref05_Has) xs rv outs := acall_of mix05 Try.func13 ok05_pref05_Has h
theorem ok05_pref05_Join : cFun Try.prog H_pref05_Join Try.f14 = some (c_pref05_Join F05) := by kernel_rfl
theorem a05_pref05_Join {xs : List Arg} {rv : RV} {outs : List Blk} (h : (c_pref05_Join F05).gives (ACall Try.prog) xs rv outs) : ACall Try.prog (F05 n_pref05_Join) xs rv outs := acall_of mix05 Try.func14 ok05_pref05_Join h
theorem ok05_vec_Meet_1 : cFun Try.prog H_vec_Meet_1 Try.f23 = some (c_vec_Meet_1 F05) := by kernel_rfl
theorem a05_vec_Meet_1 {xs : List Arg} {rv : RV} {outs : List Blk} (h : (c_vec_Meet_1 F05).gives (ACall Try.prog) xs rv outs) : ACall Try.prog (F05 n_vec_Meet_1) xs rv outs := acall_of mix05 Try.func23 ok05_vec_Meet_1 h
theorem ok05_vec_Meet : cFun Try.prog H_vec_Meet Try.f7 = some (c_vec_Meet F05) := by kernel_rfl
theorem a05_vec_Meet {xs : List Arg} {rv : RV} {outs : List Blk} (h : (c_vec_Meet F05).gives (ACall Try.prog) xs rv outs) : ACall Try.prog (F05 n_vec_Meet) xs rv outs := acall_of mix05 Try.func7 ok05_vec_Meet h
theorem ok05_pref05_Meet : cFun Try.prog H_pref05_Meet Try.f15 = some (c_pref05_Meet F05) := by kernel_rfl
theorem a05_pref05_Meet {xs : List Arg} {rv : RV} {outs : List Blk} (h : (c_pref05_Meet F05).gives (ACall Try.prog) xs rv outs) : ACall Try.prog (F05 n_pref05_Meet) xs rv outs := acall_of mix05 Try.func15 ok05_pref05_Meet h
theorem ok05_vec_Within : cFun Try.prog H_vec_Within Try.f8 = some (c_vec_Within F05) := by kernel_rfl
theorem a05_vec_Within {xs : List Arg} {rv : RV} {outs : List Blk} (h : (c_vec_Within F05).gives (ACall Try.prog) xs rv outs) : ACall Try.prog (F05 n_vec_Within) xs rv outs := acall_of mix05 Try.func8 ok05_vec_Within h
theorem ok05_pref05_Within : cFun Try.prog H_pref05_Within Try.f16 = some (c_pref05_Within F05) := by kernel_rfl
theorem a05_pref05_Within {xs : List Arg} {rv : RV} {outs : List Blk} (h : (c_pref05_Within F05).gives (ACall Try.prog) xs rv outs) : ACall Try.prog (F05 n_pref05_Within) xs rv outs := acall_of mix05 Try.func16 ok05_pref05_Within h
theorem ok05_strings_Builder_WriteByte : cFun Try.prog H_strings_Builder_WriteByte Try.f28 = some (c_strings_Builder_WriteByte F05) := by kernel_rfl
theorem a05_strings_Builder_WriteByte {xs : List Arg} {rv : RV} {outs : List Blk} (h : (c_strings_Builder_WriteByte F05).gives (ACall Try.prog) xs rv outs) : ACall Try.prog (F05 n_strings_Builder_WriteByte) xs rv outs := acall_of mix05 Try.func28 ok05_strings_Builder_WriteByte h
theorem ok05_pack_Int : cFun Try.prog H_pack_Int Try.f26 = some (c_pack_Int F05) := by kernel_rfl
theorem a05_pack_Int {xs : List Arg} {rv : RV} {outs : List Blk} (h : (c_pack_Int F05).gives (ACall Try.prog) xs rv outs) : ACall Try.prog (F05 n_pack_Int) xs rv outs := acall_of mix05 Try.func26 ok05_pack_Int h
theorem ok05_vec_Code : cFun Try.prog H_vec_Code Try.f17 = some (c_vec_Code F05) := by kernel_rfl
theorem a05_vec_Code {xs : List Arg} {rv : RV} {outs : List Blk} (h : (c_vec_Code F05).gives (ACall Try.prog) xs rv outs) : ACall Try.prog (F05 n_vec_Code) xs rv outs := acall_of mix05 Try.func17 ok05_vec_Code h
theorem ok05_pref02_Int : cFun Try.prog H_pref02_Int Try.f27 = some (c_pref02_Int F05) := by kernel_rfl
theorem a05_pref02_Int {xs : List Arg} {rv : RV} {outs : List Blk} (h : (c_pref02_Int F05).gives (ACall Try.prog) xs rv outs) : ACall Try.prog (F05 n_pref02_Int) xs rv outs := acall_of mix05 Try.func27 ok05_pref02_Int h
theorem ok05_pref05_Code : cFun Try.prog H_pref05_Code Try.f18 = some (c_pref05_Code F05) := by kernel_rfl
theorem a05_pref05_Code {xs : List Arg} {rv : RV} {outs : List Blk} (h : (c_pref05_Code F05).gives (ACall Try.prog) xs rv outs) : ACall Try.prog (F05 n_pref05_Code) xs rv outs := acall_of mix05 Try.func18 ok05_pref05_Code h
theorem ok05_vec_Count : cFun Try.prog H_vec_Count Try.f19 = some (c_vec_Count F05) := by kernel_rfl
theorem a05_vec_Count {xs : List Arg} {rv : RV} {outs : List Blk} (h : (c_vec_Count F05).gives (ACall Try.prog) xs rv outs) : ACall Try.prog (F05 n_vec_Count) xs rv outs := acall_of mix05 Try.func19 ok05_vec_Count h
theorem ok05_pref05_Count : cFun Try.prog H_pref05_Count Try.f20 = some (c_pref05_Count F05) := by kernel_rfl
theorem a05_pref05_Count {xs : List Arg} {rv : RV} {outs : List Blk} (h : (c_pref05_Count F05).gives (ACall Try.prog) xs rv outs) : ACall Try.prog (F05 n_pref05_Count) xs rv outs := acall_of mix05 Try.func20 ok05_pref05_Count h
theorem ok05_plaw05_VecTells : cFun Try.prog H_plaw05_VecTells Try.f5 = some (c_plaw05_VecTells F05) := by kernel_rfl
theorem a05_plaw05_VecTells {xs : List Arg} {rv : RV} {outs : List Blk} (h : (c_plaw05_VecTells F05).gives (ACall Try.prog) xs rv outs) : ACall Try.prog (F05 n_plaw05_VecTells) xs rv outs := acall_of mix05 Try.func5 ok05_plaw05_VecTells h
end Go.AR
