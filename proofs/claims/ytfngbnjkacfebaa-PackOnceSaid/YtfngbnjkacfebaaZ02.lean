import Derived.Test.YtfngbnjkacfebaaFun
import Derived.Test.YtfngbnjkacfebaaK02
import Derived.Test.YtfngbnjkacfebaaSeat02
set_option linter.all false
namespace Go.AR
open Go Go.Proofs
theorem ok02_strings_Builder_WriteByte : cFun Try.prog H_strings_Builder_WriteByte Try.f19 = some (c_strings_Builder_WriteByte F02) := by kernel_rfl
theorem a02_strings_Builder_WriteByte {xs : List Arg} {rv : RV} {outs : List Blk} (h : (c_strings_Builder_WriteByte F02).gives (ACall Try.prog) xs rv outs) : ACall Try.prog (F02 n_strings_Builder_WriteByte) xs rv outs := acall_of mix02 Try.func19 ok02_strings_Builder_WriteByte h
theorem ok02_pack_Int : cFun Try.prog H_pack_Int Try.f7 = some (c_pack_Int F02) := by kernel_rfl
theorem a02_pack_Int {xs : List Arg} {rv : RV} {outs : List Blk} (h : (c_pack_Int F02).gives (ACall Try.prog) xs rv outs) : ACall Try.prog (F02 n_pack_Int) xs rv outs := acall_of mix02 Try.func7 ok02_pack_Int h
theorem ok02_pack_Open : cFun Try.prog H_pack_Open Try.f11 = some (c_pack_Open F02) := by kernel_rfl
theorem a02_pack_Open {xs : List Arg} {rv : RV} {outs : List Blk} (h : (c_pack_Open F02).gives (ACall Try.prog) xs rv outs) : ACall Try.prog (F02 n_pack_Open) xs rv outs := acall_of mix02 Try.func11 ok02_pack_Open h
theorem ok02_pack_Reader_fine : cFun Try.prog H_pack_Reader_fine Try.f21 = some (c_pack_Reader_fine F02) := by kernel_rfl
theorem a02_pack_Reader_fine {xs : List Arg} {rv : RV} {outs : List Blk} (h : (c_pack_Reader_fine F02).gives (ACall Try.prog) xs rv outs) : ACall Try.prog (F02 n_pack_Reader_fine) xs rv outs := acall_of mix02 Try.func21 ok02_pack_Reader_fine h
theorem ok02_pack_Reader_Fail : cFun Try.prog H_pack_Reader_Fail Try.f17 = some (c_pack_Reader_Fail F02) := by kernel_rfl
theorem a02_pack_Reader_Fail {xs : List Arg} {rv : RV} {outs : List Blk} (h : (c_pack_Reader_Fail F02).gives (ACall Try.prog) xs rv outs) : ACall Try.prog (F02 n_pack_Reader_Fail) xs rv outs := acall_of mix02 Try.func17 ok02_pack_Reader_Fail h
theorem ok02_pack_Reader_Int : cFun Try.prog H_pack_Reader_Int Try.f12 = some (c_pack_Reader_Int F02) := by kernel_rfl
theorem a02_pack_Reader_Int {xs : List Arg} {rv : RV} {outs : List Blk} (h : (c_pack_Reader_Int F02).gives (ACall Try.prog) xs rv outs) : ACall Try.prog (F02 n_pack_Reader_Int) xs rv outs := acall_of mix02 Try.func12 ok02_pack_Reader_Int h
theorem ok02_plaw02_awake : cFun Try.prog H_plaw02_awake Try.f6 = some (c_plaw02_awake F02) := by kernel_rfl
theorem a02_plaw02_awake {xs : List Arg} {rv : RV} {outs : List Blk} (h : (c_plaw02_awake F02).gives (ACall Try.prog) xs rv outs) : ACall Try.prog (F02 n_plaw02_awake) xs rv outs := acall_of mix02 Try.func6 ok02_plaw02_awake h
theorem ok02_pref02_Int : cFun Try.prog H_pref02_Int Try.f8 = some (c_pref02_Int F02) := by kernel_rfl
theorem a02_pref02_Int {xs : List Arg} {rv : RV} {outs : List Blk} (h : (c_pref02_Int F02).gives (ACall Try.prog) xs rv outs) : ACall Try.prog (F02 n_pref02_Int) xs rv outs := acall_of mix02 Try.func8 ok02_pref02_Int h
theorem ok02_pack_Text : cFun Try.prog H_pack_Text Try.f9 = some (c_pack_Text F02) := by kernel_rfl
theorem a02_pack_Text {xs : List Arg} {rv : RV} {outs : List Blk} (h : (c_pack_Text F02).gives (ACall Try.prog) xs rv outs) : ACall Try.prog (F02 n_pack_Text) xs rv outs := acall_of mix02 Try.func9 ok02_pack_Text h
theorem ok02_pref02_Text : cFun Try.prog H_pref02_Text Try.f10 = some (c_pref02_Text F02) := by kernel_rfl
theorem a02_pref02_Text {xs : List Arg} {rv : RV} {outs : List Blk} (h : (c_pref02_Text F02).gives (ACall Try.prog) xs rv outs) : ACall Try.prog (F02 n_pref02_Text) xs rv outs := acall_of mix02 Try.func10 ok02_pref02_Text h
theorem ok02_plaw02_PackTells : cFun Try.prog H_plaw02_PackTells Try.f3 = some (c_plaw02_PackTells F02) := by kernel_rfl
theorem a02_plaw02_PackTells {xs : List Arg} {rv : RV} {outs : List Blk} (h : (c_plaw02_PackTells F02).gives (ACall Try.prog) xs rv outs) : ACall Try.prog (F02 n_plaw02_PackTells) xs rv outs := acall_of mix02 Try.func3 ok02_plaw02_PackTells h
theorem ok02_pack_Reader_Text : cFun Try.prog H_pack_Reader_Text Try.f13 = some (c_pack_Reader_Text F02) := by kernel_rfl
theorem a02_pack_Reader_Text {xs : List Arg} {rv : RV} {outs : List Blk} (h : (c_pack_Reader_Text F02).gives (ACall Try.prog) xs rv outs) : ACall Try.prog (F02 n_pack_Reader_Text) xs rv outs := acall_of mix02 Try.func13 ok02_pack_Reader_Text h
theorem ok02_pack_Reader_Left : cFun Try.prog H_pack_Reader_Left Try.f14 = some (c_pack_Reader_Left F02) := by kernel_rfl
theorem a02_pack_Reader_Left {xs : List Arg} {rv : RV} {outs : List Blk} (h : (c_pack_Reader_Left F02).gives (ACall Try.prog) xs rv outs) : ACall Try.prog (F02 n_pack_Reader_Left) xs rv outs := acall_of mix02 Try.func14 ok02_pack_Reader_Left h
theorem ok02_pack_Reader_Fault : cFun Try.prog H_pack_Reader_Fault Try.f15 = some (c_pack_Reader_Fault F02) := by kernel_rfl
theorem a02_pack_Reader_Fault {xs : List Arg} {rv : RV} {outs : List Blk} (h : (c_pack_Reader_Fault F02).gives (ACall Try.prog) xs rv outs) : ACall Try.prog (F02 n_pack_Reader_Fault) xs rv outs := acall_of mix02 Try.func15 ok02_pack_Reader_Fault h
theorem ok02_pack_Reader_End : cFun Try.prog H_pack_Reader_End Try.f16 = some (c_pack_Reader_End F02) := by kernel_rfl
theorem a02_pack_Reader_End {xs : List Arg} {rv : RV} {outs : List Blk} (h : (c_pack_Reader_End F02).gives (ACall Try.prog) xs rv outs) : ACall Try.prog (F02 n_pack_Reader_End) xs rv outs := acall_of mix02 Try.func16 ok02_pack_Reader_End h
theorem ok02_plaw02_PackBack : cFun Try.prog H_plaw02_PackBack Try.f4 = some (c_plaw02_PackBack F02) := by kernel_rfl
theorem a02_plaw02_PackBack {xs : List Arg} {rv : RV} {outs : List Blk} (h : (c_plaw02_PackBack F02).gives (ACall Try.prog) xs rv outs) : ACall Try.prog (F02 n_plaw02_PackBack) xs rv outs := acall_of mix02 Try.func4 ok02_plaw02_PackBack h
theorem ok02_pack_Reader_fine__nil : cFun Try.prog H_pack_Reader_fine__nil Try.f21 = some (c_pack_Reader_fine__nil F02) := by kernel_rfl
theorem a02_pack_Reader_fine__nil {xs : List Arg} {rv : RV} {outs : List Blk} (h : (c_pack_Reader_fine__nil F02).gives (ACall Try.prog) xs rv outs) : ACall Try.prog (F02 n_pack_Reader_fine) xs rv outs := acall_of mix02 Try.func21 ok02_pack_Reader_fine__nil h
theorem ok02_pack_Reader_Fail__nil : cFun Try.prog H_pack_Reader_Fail__nil Try.f17 = some (c_pack_Reader_Fail__nil F02) := by kernel_rfl
theorem a02_pack_Reader_Fail__nil {xs : List Arg} {rv : RV} {outs : List Blk} (h : (c_pack_Reader_Fail__nil F02).gives (ACall Try.prog) xs rv outs) : ACall Try.prog (F02 n_pack_Reader_Fail) xs rv outs := acall_of mix02 Try.func17 ok02_pack_Reader_Fail__nil h
theorem ok02_pack_Reader_Int__nil : cFun Try.prog H_pack_Reader_Int__nil Try.f12 = some (c_pack_Reader_Int__nil F02) := by kernel_rfl
theorem a02_pack_Reader_Int__nil {xs : List Arg} {rv : RV} {outs : List Blk} (h : (c_pack_Reader_Int__nil F02).gives (ACall Try.prog) xs rv outs) : ACall Try.prog (F02 n_pack_Reader_Int) xs rv outs := acall_of mix02 Try.func12 ok02_pack_Reader_Int__nil h
theorem ok02_pack_Reader_Text__nil : cFun Try.prog H_pack_Reader_Text__nil Try.f13 = some (c_pack_Reader_Text__nil F02) := by kernel_rfl
theorem a02_pack_Reader_Text__nil {xs : List Arg} {rv : RV} {outs : List Blk} (h : (c_pack_Reader_Text__nil F02).gives (ACall Try.prog) xs rv outs) : ACall Try.prog (F02 n_pack_Reader_Text) xs rv outs := acall_of mix02 Try.func13 ok02_pack_Reader_Text__nil h
theorem ok02_pack_Reader_Many__nil : cFun Try.prog H_pack_Reader_Many__nil Try.f18 = some (c_pack_Reader_Many__nil F02) := by kernel_rfl
theorem a02_pack_Reader_Many__nil {xs : List Arg} {rv : RV} {outs : List Blk} (h : (c_pack_Reader_Many__nil F02).gives (ACall Try.prog) xs rv outs) : ACall Try.prog (F02 n_pack_Reader_Many) xs rv outs := acall_of mix02 Try.func18 ok02_pack_Reader_Many__nil h
theorem ok02_pack_Reader_Left__nil : cFun Try.prog H_pack_Reader_Left__nil Try.f14 = some (c_pack_Reader_Left__nil F02) := by kernel_rfl
theorem a02_pack_Reader_Left__nil {xs : List Arg} {rv : RV} {outs : List Blk} (h : (c_pack_Reader_Left__nil F02).gives (ACall Try.prog) xs rv outs) : ACall Try.prog (F02 n_pack_Reader_Left) xs rv outs := acall_of mix02 Try.func14 ok02_pack_Reader_Left__nil h
theorem ok02_pack_Reader_Fault__nil : cFun Try.prog H_pack_Reader_Fault__nil Try.f15 = some (c_pack_Reader_Fault__nil F02) := by kernel_rfl
theorem a02_pack_Reader_Fault__nil {xs : List Arg} {rv : RV} {outs : List Blk} (h : (c_pack_Reader_Fault__nil F02).gives (ACall Try.prog) xs rv outs) : ACall Try.prog (F02 n_pack_Reader_Fault) xs rv outs := acall_of mix02 Try.func15 ok02_pack_Reader_Fault__nil h
theorem ok02_pack_Reader_End__nil : cFun Try.prog H_pack_Reader_End__nil Try.f16 = some (c_pack_Reader_End__nil F02) := by kernel_rfl
theorem a02_pack_Reader_End__nil {xs : List Arg} {rv : RV} {outs : List Blk} (h : (c_pack_Reader_End__nil F02).gives (ACall Try.prog) xs rv outs) : ACall Try.prog (F02 n_pack_Reader_End) xs rv outs := acall_of mix02 Try.func16 ok02_pack_Reader_End__nil h
theorem ok02_plaw02_PackOnce : cFun Try.prog H_plaw02_PackOnce Try.f5 = some (c_plaw02_PackOnce F02) := by kernel_rfl
theorem a02_plaw02_PackOnce {xs : List Arg} {rv : RV} {outs : List Blk} (h : (c_plaw02_PackOnce F02).gives (ACall Try.prog) xs rv outs) : ACall Try.prog (F02 n_plaw02_PackOnce) xs rv outs := acall_of mix02 Try.func5 ok02_plaw02_PackOnce h
end Go.AR
