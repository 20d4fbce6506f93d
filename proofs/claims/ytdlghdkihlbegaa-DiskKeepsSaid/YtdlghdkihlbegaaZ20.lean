import Derived.Test.YtdlghdkihlbegaaFun
import Derived.Test.YtdlghdkihlbegaaK20
import Derived.Test.YtdlghdkihlbegaaChecked
import Derived.KernelRfl
set_option linter.all false
/-! The seat: which function is which, and its code. Printed by program. -/
namespace Go.AR
open Go Go.Proofs
def F20 : Nat → FuncId := fun i => (get [(23, 0), (24, 1), (25, 2), (42, 22), (43, 23), (44, 24), (45, 25), (46, 26), (47, 27), (48, 28), (49, 29), (50, 30), (51, 31), (52, 32), (53, 33), (54, 34), (55, 35), (56, 36), (57, 37), (58, 3), (59, 6), (60, 7), (61, 8), (62, 9), (63, 10), (64, 11), (65, 12), (66, 4), (67, 13), (68, 14), (69, 5), (70, 15), (71, 16), (72, 17), (73, 18), (74, 19), (75, 20), (76, 21)] i).getD 0
theorem mix20 : Try.prog.follows .mixedOrders = true := by kernel_rfl
theorem ok20_disk_New : cFun Try.prog H_disk_New Try.f6 = some (c_disk_New F20) := by kernel_rfl
theorem a20_disk_New {xs : List Arg} {rv : RV} {outs : List Blk} (h : (c_disk_New F20).gives (ACall Try.prog) xs rv outs) : ACall Try.prog (F20 n_disk_New) xs rv outs := acall_of mix20 Try.func6 ok20_disk_New h
theorem ok20_disk_Disk_Kept : cFun Try.prog H_disk_Disk_Kept Try.f8 = some (c_disk_Disk_Kept F20) := by kernel_rfl
theorem a20_disk_Disk_Kept {xs : List Arg} {rv : RV} {outs : List Blk} (h : (c_disk_Disk_Kept F20).gives (ACall Try.prog) xs rv outs) : ACall Try.prog (F20 n_disk_Disk_Kept) xs rv outs := acall_of mix20 Try.func8 ok20_disk_Disk_Kept h
theorem ok20_disk_Disk_Waits : cFun Try.prog H_disk_Disk_Waits Try.f9 = some (c_disk_Disk_Waits F20) := by kernel_rfl
theorem a20_disk_Disk_Waits {xs : List Arg} {rv : RV} {outs : List Blk} (h : (c_disk_Disk_Waits F20).gives (ACall Try.prog) xs rv outs) : ACall Try.prog (F20 n_disk_Disk_Waits) xs rv outs := acall_of mix20 Try.func9 ok20_disk_Disk_Waits h
theorem ok20_disk_Disk_Syncs : cFun Try.prog H_disk_Disk_Syncs Try.f14 = some (c_disk_Disk_Syncs F20) := by kernel_rfl
theorem a20_disk_Disk_Syncs {xs : List Arg} {rv : RV} {outs : List Blk} (h : (c_disk_Disk_Syncs F20).gives (ACall Try.prog) xs rv outs) : ACall Try.prog (F20 n_disk_Disk_Syncs) xs rv outs := acall_of mix20 Try.func14 ok20_disk_Disk_Syncs h
theorem ok20_disk_Disk_Append : cFun Try.prog H_disk_Disk_Append Try.f10 = some (c_disk_Disk_Append F20) := by kernel_rfl
theorem a20_disk_Disk_Append {xs : List Arg} {rv : RV} {outs : List Blk} (h : (c_disk_Disk_Append F20).gives (ACall Try.prog) xs rv outs) : ACall Try.prog (F20 n_disk_Disk_Append) xs rv outs := acall_of mix20 Try.func10 ok20_disk_Disk_Append h
theorem ok20_disk_Disk_Sync : cFun Try.prog H_disk_Disk_Sync Try.f11 = some (c_disk_Disk_Sync F20) := by kernel_rfl
theorem a20_disk_Disk_Sync {xs : List Arg} {rv : RV} {outs : List Blk} (h : (c_disk_Disk_Sync F20).gives (ACall Try.prog) xs rv outs) : ACall Try.prog (F20 n_disk_Disk_Sync) xs rv outs := acall_of mix20 Try.func11 ok20_disk_Disk_Sync h
theorem ok20_disk_Disk_Crash : cFun Try.prog H_disk_Disk_Crash Try.f12 = some (c_disk_Disk_Crash F20) := by kernel_rfl
theorem a20_disk_Disk_Crash {xs : List Arg} {rv : RV} {outs : List Blk} (h : (c_disk_Disk_Crash F20).gives (ACall Try.prog) xs rv outs) : ACall Try.prog (F20 n_disk_Disk_Crash) xs rv outs := acall_of mix20 Try.func12 ok20_disk_Disk_Crash h
theorem ok20_disk_Disk_Replace : cFun Try.prog H_disk_Disk_Replace Try.f16 = some (c_disk_Disk_Replace F20) := by kernel_rfl
theorem a20_disk_Disk_Replace {xs : List Arg} {rv : RV} {outs : List Blk} (h : (c_disk_Disk_Replace F20).gives (ACall Try.prog) xs rv outs) : ACall Try.prog (F20 n_disk_Disk_Replace) xs rv outs := acall_of mix20 Try.func16 ok20_disk_Disk_Replace h
theorem ok20_disk_Disk_Cut : cFun Try.prog H_disk_Disk_Cut Try.f15 = some (c_disk_Disk_Cut F20) := by kernel_rfl
theorem a20_disk_Disk_Cut {xs : List Arg} {rv : RV} {outs : List Blk} (h : (c_disk_Disk_Cut F20).gives (ACall Try.prog) xs rv outs) : ACall Try.prog (F20 n_disk_Disk_Cut) xs rv outs := acall_of mix20 Try.func15 ok20_disk_Disk_Cut h
theorem ok20_pref20_Disk_Append : cFun Try.prog H_pref20_Disk_Append Try.f17 = some (c_pref20_Disk_Append F20) := by kernel_rfl
theorem a20_pref20_Disk_Append {xs : List Arg} {rv : RV} {outs : List Blk} (h : (c_pref20_Disk_Append F20).gives (ACall Try.prog) xs rv outs) : ACall Try.prog (F20 n_pref20_Disk_Append) xs rv outs := acall_of mix20 Try.func17 ok20_pref20_Disk_Append h
theorem ok20_pref20_Disk_Sync : cFun Try.prog H_pref20_Disk_Sync Try.f18 = some (c_pref20_Disk_Sync F20) := by kernel_rfl
theorem a20_pref20_Disk_Sync {xs : List Arg} {rv : RV} {outs : List Blk} (h : (c_pref20_Disk_Sync F20).gives (ACall Try.prog) xs rv outs) : ACall Try.prog (F20 n_pref20_Disk_Sync) xs rv outs := acall_of mix20 Try.func18 ok20_pref20_Disk_Sync h
theorem ok20_pref20_Disk_Crash : cFun Try.prog H_pref20_Disk_Crash Try.f19 = some (c_pref20_Disk_Crash F20) := by kernel_rfl
theorem a20_pref20_Disk_Crash {xs : List Arg} {rv : RV} {outs : List Blk} (h : (c_pref20_Disk_Crash F20).gives (ACall Try.prog) xs rv outs) : ACall Try.prog (F20 n_pref20_Disk_Crash) xs rv outs := acall_of mix20 Try.func19 ok20_pref20_Disk_Crash h
theorem ok20_pref20_Disk_Replace : cFun Try.prog H_pref20_Disk_Replace Try.f20 = some (c_pref20_Disk_Replace F20) := by kernel_rfl
theorem a20_pref20_Disk_Replace {xs : List Arg} {rv : RV} {outs : List Blk} (h : (c_pref20_Disk_Replace F20).gives (ACall Try.prog) xs rv outs) : ACall Try.prog (F20 n_pref20_Disk_Replace) xs rv outs := acall_of mix20 Try.func20 ok20_pref20_Disk_Replace h
theorem ok20_pref20_Disk_Cut : cFun Try.prog H_pref20_Disk_Cut Try.f21 = some (c_pref20_Disk_Cut F20) := by kernel_rfl
theorem a20_pref20_Disk_Cut {xs : List Arg} {rv : RV} {outs : List Blk} (h : (c_pref20_Disk_Cut F20).gives (ACall Try.prog) xs rv outs) : ACall Try.prog (F20 n_pref20_Disk_Cut) xs rv outs := acall_of mix20 Try.func21 ok20_pref20_Disk_Cut h
theorem ok20_plaw20_does : cFun Try.prog H_plaw20_does Try.f13 = some (c_plaw20_does F20) := by kernel_rfl
theorem a20_plaw20_does {xs : List Arg} {rv : RV} {outs : List Blk} (h : (c_plaw20_does F20).gives (ACall Try.prog) xs rv outs) : ACall Try.prog (F20 n_plaw20_does) xs rv outs := acall_of mix20 Try.func13 ok20_plaw20_does h
theorem ok20_plaw20_awake : cFun Try.prog H_plaw20_awake Try.f7 = some (c_plaw20_awake F20) := by kernel_rfl
theorem a20_plaw20_awake {xs : List Arg} {rv : RV} {outs : List Blk} (h : (c_plaw20_awake F20).gives (ACall Try.prog) xs rv outs) : ACall Try.prog (F20 n_plaw20_awake) xs rv outs := acall_of mix20 Try.func7 ok20_plaw20_awake h
theorem ok20_plaw20_DiskPlays : cFun Try.prog H_plaw20_DiskPlays Try.f4 = some (c_plaw20_DiskPlays F20) := by kernel_rfl
theorem a20_plaw20_DiskPlays {xs : List Arg} {rv : RV} {outs : List Blk} (h : (c_plaw20_DiskPlays F20).gives (ACall Try.prog) xs rv outs) : ACall Try.prog (F20 n_plaw20_DiskPlays) xs rv outs := acall_of mix20 Try.func4 ok20_plaw20_DiskPlays h
theorem ok20_plaw20_DiskNone : cFun Try.prog H_plaw20_DiskNone Try.f5 = some (c_plaw20_DiskNone F20) := by kernel_rfl
theorem a20_plaw20_DiskNone {xs : List Arg} {rv : RV} {outs : List Blk} (h : (c_plaw20_DiskNone F20).gives (ACall Try.prog) xs rv outs) : ACall Try.prog (F20 n_plaw20_DiskNone) xs rv outs := acall_of mix20 Try.func5 ok20_plaw20_DiskNone h
theorem ok20_plaw20_DiskKeeps : cFun Try.prog H_plaw20_DiskKeeps Try.f3 = some (c_plaw20_DiskKeeps F20) := by kernel_rfl
theorem a20_plaw20_DiskKeeps {xs : List Arg} {rv : RV} {outs : List Blk} (h : (c_plaw20_DiskKeeps F20).gives (ACall Try.prog) xs rv outs) : ACall Try.prog (F20 n_plaw20_DiskKeeps) xs rv outs := acall_of mix20 Try.func3 ok20_plaw20_DiskKeeps h
end Go.AR
