import Derived.Test.YtibcjdlegofoaaaFun
import Derived.Test.YtibcjdlegofoaaaK01
import Derived.Test.YtibcjdlegofoaaaChecked
import Derived.KernelRfl
set_option linter.all false
/-! The seat: which function is which, and its code. Printed by program. -/
namespace Go.AR
open Go Go.Proofs
def F01 : Nat → FuncId := fun i => (get [(23, 0), (24, 1), (25, 2), (26, 3), (27, 7), (28, 8), (29, 9), (30, 10), (31, 11), (32, 12), (33, 13), (34, 4), (35, 5), (36, 15), (37, 14), (38, 16), (39, 6), (40, 17), (41, 18), (42, 19), (43, 20), (44, 21), (45, 22), (46, 23), (47, 24), (48, 25), (49, 26), (50, 27), (51, 28), (52, 29), (53, 30), (54, 31), (55, 32), (56, 33), (57, 34)] i).getD 0
theorem mix01 : Try.prog.follows .mixedOrders = true := by kernel_rfl
theorem ok01_sum_table : cFun Try.prog H_sum_table Try.f18 = some (c_sum_table F01) := by kernel_rfl
theorem a01_sum_table {xs : List Arg} {rv : RV} {outs : List Blk} (h : (c_sum_table F01).gives (ACall Try.prog) xs rv outs) : ACall Try.prog (F01 n_sum_table) xs rv outs := acall_of mix01 Try.func18 ok01_sum_table h
theorem ok01_sum_More : cFun Try.prog H_sum_More Try.f10 = some (c_sum_More F01) := by kernel_rfl
theorem a01_sum_More {xs : List Arg} {rv : RV} {outs : List Blk} (h : (c_sum_More F01).gives (ACall Try.prog) xs rv outs) : ACall Try.prog (F01 n_sum_More) xs rv outs := acall_of mix01 Try.func10 ok01_sum_More h
theorem ok01_sum_Of : cFun Try.prog H_sum_Of Try.f8 = some (c_sum_Of F01) := by kernel_rfl
theorem a01_sum_Of {xs : List Arg} {rv : RV} {outs : List Blk} (h : (c_sum_Of F01).gives (ACall Try.prog) xs rv outs) : ACall Try.prog (F01 n_sum_Of) xs rv outs := acall_of mix01 Try.func8 ok01_sum_Of h
theorem ok01_pref01_More : cFun Try.prog H_pref01_More Try.f11 = some (c_pref01_More F01) := by kernel_rfl
theorem a01_pref01_More {xs : List Arg} {rv : RV} {outs : List Blk} (h : (c_pref01_More F01).gives (ACall Try.prog) xs rv outs) : ACall Try.prog (F01 n_pref01_More) xs rv outs := acall_of mix01 Try.func11 ok01_pref01_More h
theorem ok01_pref01_Of : cFun Try.prog H_pref01_Of Try.f9 = some (c_pref01_Of F01) := by kernel_rfl
theorem a01_pref01_Of {xs : List Arg} {rv : RV} {outs : List Blk} (h : (c_pref01_Of F01).gives (ACall Try.prog) xs rv outs) : ACall Try.prog (F01 n_pref01_Of) xs rv outs := acall_of mix01 Try.func9 ok01_pref01_Of h
theorem ok01_sum_Bytes : cFun Try.prog H_sum_Bytes Try.f12 = some (c_sum_Bytes F01) := by kernel_rfl
theorem a01_sum_Bytes {xs : List Arg} {rv : RV} {outs : List Blk} (h : (c_sum_Bytes F01).gives (ACall Try.prog) xs rv outs) : ACall Try.prog (F01 n_sum_Bytes) xs rv outs := acall_of mix01 Try.func12 ok01_sum_Bytes h
theorem ok01_pref01_Bytes : cFun Try.prog H_pref01_Bytes Try.f13 = some (c_pref01_Bytes F01) := by kernel_rfl
theorem a01_pref01_Bytes {xs : List Arg} {rv : RV} {outs : List Blk} (h : (c_pref01_Bytes F01).gives (ACall Try.prog) xs rv outs) : ACall Try.prog (F01 n_pref01_Bytes) xs rv outs := acall_of mix01 Try.func13 ok01_pref01_Bytes h
theorem ok01_sum_Sealed : cFun Try.prog H_sum_Sealed Try.f15 = some (c_sum_Sealed F01) := by kernel_rfl
theorem a01_sum_Sealed {xs : List Arg} {rv : RV} {outs : List Blk} (h : (c_sum_Sealed F01).gives (ACall Try.prog) xs rv outs) : ACall Try.prog (F01 n_sum_Sealed) xs rv outs := acall_of mix01 Try.func15 ok01_sum_Sealed h
theorem ok01_sum_Open : cFun Try.prog H_sum_Open Try.f14 = some (c_sum_Open F01) := by kernel_rfl
theorem a01_sum_Open {xs : List Arg} {rv : RV} {outs : List Blk} (h : (c_sum_Open F01).gives (ACall Try.prog) xs rv outs) : ACall Try.prog (F01 n_sum_Open) xs rv outs := acall_of mix01 Try.func14 ok01_sum_Open h
theorem ok01_pref01_Open : cFun Try.prog H_pref01_Open Try.f16 = some (c_pref01_Open F01) := by kernel_rfl
theorem a01_pref01_Open {xs : List Arg} {rv : RV} {outs : List Blk} (h : (c_pref01_Open F01).gives (ACall Try.prog) xs rv outs) : ACall Try.prog (F01 n_pref01_Open) xs rv outs := acall_of mix01 Try.func16 ok01_pref01_Open h
theorem ok01_pref01_Changed : cFun Try.prog H_pref01_Changed Try.f17 = some (c_pref01_Changed F01) := by kernel_rfl
theorem a01_pref01_Changed {xs : List Arg} {rv : RV} {outs : List Blk} (h : (c_pref01_Changed F01).gives (ACall Try.prog) xs rv outs) : ACall Try.prog (F01 n_pref01_Changed) xs rv outs := acall_of mix01 Try.func17 ok01_pref01_Changed h
theorem ok01_plaw01_awake : cFun Try.prog H_plaw01_awake Try.f7 = some (c_plaw01_awake F01) := by kernel_rfl
theorem a01_plaw01_awake {xs : List Arg} {rv : RV} {outs : List Blk} (h : (c_plaw01_awake F01).gives (ACall Try.prog) xs rv outs) : ACall Try.prog (F01 n_plaw01_awake) xs rv outs := acall_of mix01 Try.func7 ok01_plaw01_awake h
theorem ok01_plaw01_SumTells : cFun Try.prog H_plaw01_SumTells Try.f3 = some (c_plaw01_SumTells F01) := by kernel_rfl
theorem a01_plaw01_SumTells {xs : List Arg} {rv : RV} {outs : List Blk} (h : (c_plaw01_SumTells F01).gives (ACall Try.prog) xs rv outs) : ACall Try.prog (F01 n_plaw01_SumTells) xs rv outs := acall_of mix01 Try.func3 ok01_plaw01_SumTells h
theorem ok01_plaw01_SumGoes : cFun Try.prog H_plaw01_SumGoes Try.f4 = some (c_plaw01_SumGoes F01) := by kernel_rfl
theorem a01_plaw01_SumGoes {xs : List Arg} {rv : RV} {outs : List Blk} (h : (c_plaw01_SumGoes F01).gives (ACall Try.prog) xs rv outs) : ACall Try.prog (F01 n_plaw01_SumGoes) xs rv outs := acall_of mix01 Try.func4 ok01_plaw01_SumGoes h
theorem ok01_plaw01_SumOpens : cFun Try.prog H_plaw01_SumOpens Try.f5 = some (c_plaw01_SumOpens F01) := by kernel_rfl
theorem a01_plaw01_SumOpens {xs : List Arg} {rv : RV} {outs : List Blk} (h : (c_plaw01_SumOpens F01).gives (ACall Try.prog) xs rv outs) : ACall Try.prog (F01 n_plaw01_SumOpens) xs rv outs := acall_of mix01 Try.func5 ok01_plaw01_SumOpens h
theorem ok01_plaw01_SumFinds : cFun Try.prog H_plaw01_SumFinds Try.f6 = some (c_plaw01_SumFinds F01) := by kernel_rfl
theorem a01_plaw01_SumFinds {xs : List Arg} {rv : RV} {outs : List Blk} (h : (c_plaw01_SumFinds F01).gives (ACall Try.prog) xs rv outs) : ACall Try.prog (F01 n_plaw01_SumFinds) xs rv outs := acall_of mix01 Try.func6 ok01_plaw01_SumFinds h
end Go.AR
