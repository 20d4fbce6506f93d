import Derived.Test.YtpmagnceeobcbaaFun
import Derived.Test.YtpmagnceeobcbaaKvec
import Derived.Test.YtpmagnceeobcbaaChecked
import Derived.KernelRfl
set_option linter.all false
/-! The seat: which function is which, and its code. Printed by program. -/
namespace Go.AR
open Go Go.Proofs
def F05 : Nat → FuncId := fun i => (get [(0, 3), (1, 6), (2, 7), (3, 8), (4, 9), (5, 4), (6, 10), (7, 5), (8, 11), (9, 12), (10, 13), (11, 14), (12, 15), (13, 16), (14, 17), (15, 18), (16, 19), (17, 20), (18, 21), (19, 22), (20, 23), (21, 24), (22, 26)] i).getD 0
theorem mix05 : Try.prog.follows .mixedOrders = true := by kernel_rfl
theorem ok05_vec_both : cFun Try.prog H_vec_both Try.f21 = some (c_vec_both F05) := by kernel_rfl
theorem a05_vec_both {xs : List Arg} {rv : RV} {outs : List Blk} (h : (c_vec_both F05).gives (ACall Try.prog) xs rv outs) : ACall Try.prog (F05 n_vec_both) xs rv outs := acall_of mix05 Try.func21 ok05_vec_both h
theorem ok05_vec_Join_1 : cFun Try.prog H_vec_Join_1 Try.f22 = some (c_vec_Join_1 F05) := by kernel_rfl
theorem a05_vec_Join_1 {xs : List Arg} {rv : RV} {outs : List Blk} (h : (c_vec_Join_1 F05).gives (ACall Try.prog) xs rv outs) : ACall Try.prog (F05 n_vec_Join_1) xs rv outs := acall_of mix05 Try.func22 ok05_vec_Join_1 h
theorem ok05_vec_Meet_1 : cFun Try.prog H_vec_Meet_1 Try.f23 = some (c_vec_Meet_1 F05) := by kernel_rfl
theorem a05_vec_Meet_1 {xs : List Arg} {rv : RV} {outs : List Blk} (h : (c_vec_Meet_1 F05).gives (ACall Try.prog) xs rv outs) : ACall Try.prog (F05 n_vec_Meet_1) xs rv outs := acall_of mix05 Try.func23 ok05_vec_Meet_1 h
theorem ok05_vec_Join : cFun Try.prog H_vec_Join Try.f6 = some (c_vec_Join F05) := by kernel_rfl
theorem a05_vec_Join {xs : List Arg} {rv : RV} {outs : List Blk} (h : (c_vec_Join F05).gives (ACall Try.prog) xs rv outs) : ACall Try.prog (F05 n_vec_Join) xs rv outs := acall_of mix05 Try.func6 ok05_vec_Join h
theorem ok05_vec_Meet : cFun Try.prog H_vec_Meet Try.f7 = some (c_vec_Meet F05) := by kernel_rfl
theorem a05_vec_Meet {xs : List Arg} {rv : RV} {outs : List Blk} (h : (c_vec_Meet F05).gives (ACall Try.prog) xs rv outs) : ACall Try.prog (F05 n_vec_Meet) xs rv outs := acall_of mix05 Try.func7 ok05_vec_Meet h
theorem ok05_vec_Within : cFun Try.prog H_vec_Within Try.f8 = some (c_vec_Within F05) := by kernel_rfl
theorem a05_vec_Within {xs : List Arg} {rv : RV} {outs : List Blk} (h : (c_vec_Within F05).gives (ACall Try.prog) xs rv outs) : ACall Try.prog (F05 n_vec_Within) xs rv outs := acall_of mix05 Try.func8 ok05_vec_Within h
theorem ok05_dot_Right : cFun Try.prog H_dot_Right Try.f24 = some (c_dot_Right F05) := by kernel_rfl
theorem a05_dot_Right {xs : List Arg} {rv : RV} {outs : List Blk} (h : (c_dot_Right F05).gives (ACall Try.prog) xs rv outs) : ACall Try.prog (F05 n_dot_Right) xs rv outs := acall_of mix05 Try.func24 ok05_dot_Right h
theorem ok05_vec_Has : cFun Try.prog H_vec_Has Try.f10 = some (c_vec_Has F05) := by kernel_rfl
theorem a05_vec_Has {xs : List Arg} {rv : RV} {outs : List Blk} (h : (c_vec_Has F05).gives (ACall Try.prog) xs rv outs) : ACall Try.prog (F05 n_vec_Has) xs rv outs := acall_of mix05 Try.func10 ok05_vec_Has h
theorem ok05_plaw05_awake : cFun Try.prog H_plaw05_awake Try.f9 = some (c_plaw05_awake F05) := by kernel_rfl
theorem a05_plaw05_awake {xs : List Arg} {rv : RV} {outs : List Blk} (h : (c_plaw05_awake F05).gives (ACall Try.prog) xs rv outs) : ACall Try.prog (F05 n_plaw05_awake) xs rv outs := acall_of mix05 Try.func9 ok05_plaw05_awake h
theorem ok05_plaw05_VecLattice : cFun Try.prog H_plaw05_VecLattice Try.f3 = some (c_plaw05_VecLattice F05) := by kernel_rfl
theorem a05_plaw05_VecLattice {xs : List Arg} {rv : RV} {outs : List Blk} (h : (c_plaw05_VecLattice F05).gives (ACall Try.prog) xs rv outs) : ACall Try.prog (F05 n_plaw05_VecLattice) xs rv outs := acall_of mix05 Try.func3 ok05_plaw05_VecLattice h
theorem ok05_plaw05_VecDots : cFun Try.prog H_plaw05_VecDots Try.f4 = some (c_plaw05_VecDots F05) := by kernel_rfl
theorem a05_plaw05_VecDots {xs : List Arg} {rv : RV} {outs : List Blk} (h : (c_plaw05_VecDots F05).gives (ACall Try.prog) xs rv outs) : ACall Try.prog (F05 n_plaw05_VecDots) xs rv outs := acall_of mix05 Try.func4 ok05_plaw05_VecDots h
end Go.AR
