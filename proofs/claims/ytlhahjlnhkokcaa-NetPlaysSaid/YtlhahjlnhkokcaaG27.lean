import Derived.Test.YtlhahjlnhkokcaaG26
import Derived.Test.YtlhahjlnhkokcaaG03
import Derived.Test.YtlhahjlnhkokcaaG05
import Derived.Test.YtlhahjlnhkokcaaG04
import Derived.Test.YtlhahjlnhkokcaaG09
import Derived.Test.YtlhahjlnhkokcaaChecked
import Derived.KernelRfl
set_option linter.all false
/-! The seat: which function is which. Printed by program. -/
namespace Go.AR
open Go Go.Proofs
def F31 : Nat → FuncId := fun i => (get [(23, 0), (24, 1), (25, 2), (40, 23), (42, 24), (43, 25), (44, 26), (45, 27), (46, 28), (47, 29), (48, 30), (49, 31), (50, 32), (51, 33), (52, 34), (53, 35), (54, 36), (55, 37), (56, 38), (57, 39), (109, 5), (374, 3), (375, 6), (376, 7), (377, 8), (378, 9), (379, 10), (380, 11), (381, 4), (382, 12), (383, 13), (384, 14), (385, 5), (386, 15), (387, 17), (388, 18), (389, 19), (390, 20), (391, 21), (392, 22), (393, 16)] i).getD 0
abbrev C31 : CallRel := ACall Try.prog
theorem mix31 : Try.prog.follows .mixedOrders = true := by kernel_rfl
end Go.AR

namespace Go.AR
open Go Go.Proofs
theorem ok31_net_New : cFun Try.prog H_net_New Try.f7 = some (c_net_New F31) := by kernel_rfl
theorem a31_net_New {xs : List Arg} {rv : RV} {outs : List Blk} (h : (c_net_New F31).gives (ACall Try.prog) xs rv outs) : ACall Try.prog (F31 n_net_New) xs rv outs := acall_of mix31 Try.func7 ok31_net_New h
theorem ok31_net_Net_Send : cFun Try.prog H_net_Net_Send Try.f8 = some (c_net_Net_Send F31) := by kernel_rfl
theorem a31_net_Net_Send {xs : List Arg} {rv : RV} {outs : List Blk} (h : (c_net_Net_Send F31).gives (ACall Try.prog) xs rv outs) : ACall Try.prog (F31 n_net_Net_Send) xs rv outs := acall_of mix31 Try.func8 ok31_net_Net_Send h
theorem ok31_plaw31_awake : cFun Try.prog H_plaw31_awake Try.f6 = some (c_plaw31_awake F31) := by kernel_rfl
theorem a31_plaw31_awake {xs : List Arg} {rv : RV} {outs : List Blk} (h : (c_plaw31_awake F31).gives (ACall Try.prog) xs rv outs) : ACall Try.prog (F31 n_plaw31_awake) xs rv outs := acall_of mix31 Try.func6 ok31_plaw31_awake h
theorem ok31_net_Net_Twice : cFun Try.prog H_net_Net_Twice Try.f15 = some (c_net_Net_Twice F31) := by kernel_rfl
theorem a31_net_Net_Twice {xs : List Arg} {rv : RV} {outs : List Blk} (h : (c_net_Net_Twice F31).gives (ACall Try.prog) xs rv outs) : ACall Try.prog (F31 n_net_Net_Twice) xs rv outs := acall_of mix31 Try.func15 ok31_net_Net_Twice h
theorem ok31_net_Net_Send__nil : cFun Try.prog H_net_Net_Send__nil Try.f8 = some (c_net_Net_Send__nil F31) := by kernel_rfl
theorem a31_net_Net_Send__nil {xs : List Arg} {rv : RV} {outs : List Blk} (h : (c_net_Net_Send__nil F31).gives (ACall Try.prog) xs rv outs) : ACall Try.prog (F31 n_net_Net_Send) xs rv outs := acall_of mix31 Try.func8 ok31_net_Net_Send__nil h
theorem ok31_net_Net_Twice__nil : cFun Try.prog H_net_Net_Twice__nil Try.f15 = some (c_net_Net_Twice__nil F31) := by kernel_rfl
theorem a31_net_Net_Twice__nil {xs : List Arg} {rv : RV} {outs : List Blk} (h : (c_net_Net_Twice__nil F31).gives (ACall Try.prog) xs rv outs) : ACall Try.prog (F31 n_net_Net_Twice) xs rv outs := acall_of mix31 Try.func15 ok31_net_Net_Twice__nil h
theorem ok31_plaw31_NetNone : cFun Try.prog H_plaw31_NetNone Try.f5 = some (c_plaw31_NetNone F31) := by kernel_rfl
theorem a31_plaw31_NetNone {xs : List Arg} {rv : RV} {outs : List Blk} (h : (c_plaw31_NetNone F31).gives (ACall Try.prog) xs rv outs) : ACall Try.prog (F31 n_plaw31_NetNone) xs rv outs := acall_of mix31 Try.func5 ok31_plaw31_NetNone h
theorem ok31_plaw31_NetKeeps : cFun Try.prog H_plaw31_NetKeeps Try.f3 = some (c_plaw31_NetKeeps F31) := by kernel_rfl
theorem a31_plaw31_NetKeeps {xs : List Arg} {rv : RV} {outs : List Blk} (h : (c_plaw31_NetKeeps F31).gives (ACall Try.prog) xs rv outs) : ACall Try.prog (F31 n_plaw31_NetKeeps) xs rv outs := acall_of mix31 Try.func3 ok31_plaw31_NetKeeps h
theorem ok31_pref31_Net_Send : cFun Try.prog H_pref31_Net_Send Try.f17 = some (c_pref31_Net_Send F31) := by kernel_rfl
theorem a31_pref31_Net_Send {xs : List Arg} {rv : RV} {outs : List Blk} (h : (c_pref31_Net_Send F31).gives (ACall Try.prog) xs rv outs) : ACall Try.prog (F31 n_pref31_Net_Send) xs rv outs := acall_of mix31 Try.func17 ok31_pref31_Net_Send h
theorem ok31_pref31_Net_Is : cFun Try.prog H_pref31_Net_Is Try.f21 = some (c_pref31_Net_Is F31) := by kernel_rfl
theorem a31_pref31_Net_Is {xs : List Arg} {rv : RV} {outs : List Blk} (h : (c_pref31_Net_Is F31).gives (ACall Try.prog) xs rv outs) : ACall Try.prog (F31 n_pref31_Net_Is) xs rv outs := acall_of mix31 Try.func21 ok31_pref31_Net_Is h
theorem ok31_pref31_Net_Take : cFun Try.prog H_pref31_Net_Take Try.f18 = some (c_pref31_Net_Take F31) := by kernel_rfl
theorem a31_pref31_Net_Take {xs : List Arg} {rv : RV} {outs : List Blk} (h : (c_pref31_Net_Take F31).gives (ACall Try.prog) xs rv outs) : ACall Try.prog (F31 n_pref31_Net_Take) xs rv outs := acall_of mix31 Try.func18 ok31_pref31_Net_Take h
theorem ok31_pref31_Net_Twice : cFun Try.prog H_pref31_Net_Twice Try.f19 = some (c_pref31_Net_Twice F31) := by kernel_rfl
theorem a31_pref31_Net_Twice {xs : List Arg} {rv : RV} {outs : List Blk} (h : (c_pref31_Net_Twice F31).gives (ACall Try.prog) xs rv outs) : ACall Try.prog (F31 n_pref31_Net_Twice) xs rv outs := acall_of mix31 Try.func19 ok31_pref31_Net_Twice h
theorem ok31_pref01_Changed : cFun Try.prog H_pref01_Changed Try.f23 = some (c_pref01_Changed F31) := by kernel_rfl
theorem a31_pref01_Changed {xs : List Arg} {rv : RV} {outs : List Blk} (h : (c_pref01_Changed F31).gives (ACall Try.prog) xs rv outs) : ACall Try.prog (F31 n_pref01_Changed) xs rv outs := acall_of mix31 Try.func23 ok31_pref01_Changed h
theorem ok31_pref31_Net_Spoil : cFun Try.prog H_pref31_Net_Spoil Try.f20 = some (c_pref31_Net_Spoil F31) := by kernel_rfl
theorem a31_pref31_Net_Spoil {xs : List Arg} {rv : RV} {outs : List Blk} (h : (c_pref31_Net_Spoil F31).gives (ACall Try.prog) xs rv outs) : ACall Try.prog (F31 n_pref31_Net_Spoil) xs rv outs := acall_of mix31 Try.func20 ok31_pref31_Net_Spoil h
theorem ok31_plaw31_same : cFun Try.prog H_plaw31_same Try.f14 = some (c_plaw31_same F31) := by kernel_rfl
theorem a31_plaw31_same {xs : List Arg} {rv : RV} {outs : List Blk} (h : (c_plaw31_same F31).gives (ACall Try.prog) xs rv outs) : ACall Try.prog (F31 n_plaw31_same) xs rv outs := acall_of mix31 Try.func14 ok31_plaw31_same h
theorem ok31_plaw31_does : cFun Try.prog H_plaw31_does Try.f12 = some (c_plaw31_does F31) := by kernel_rfl
theorem a31_plaw31_does {xs : List Arg} {rv : RV} {outs : List Blk} (h : (c_plaw31_does F31).gives (ACall Try.prog) xs rv outs) : ACall Try.prog (F31 n_plaw31_does) xs rv outs := acall_of mix31 Try.func12 ok31_plaw31_does h
theorem ok31_plaw31_NetPlays : cFun Try.prog H_plaw31_NetPlays Try.f4 = some (c_plaw31_NetPlays F31) := by kernel_rfl
theorem a31_plaw31_NetPlays {xs : List Arg} {rv : RV} {outs : List Blk} (h : (c_plaw31_NetPlays F31).gives (ACall Try.prog) xs rv outs) : ACall Try.prog (F31 n_plaw31_NetPlays) xs rv outs := acall_of mix31 Try.func4 ok31_plaw31_NetPlays h
end Go.AR

namespace Go.AR
open Go Go.Proofs
theorem ok31_net_Net_Len : cFun Try.prog H_net_Net_Len Try.f11 = some (c_net_Net_Len F31) := by kernel_rfl
theorem a31_net_Net_Len {xs : List Arg} {rv : RV} {outs : List Blk} (h : (c_net_Net_Len F31).gives (ACall Try.prog) xs rv outs) : ACall Try.prog (F31 n_net_Net_Len) xs rv outs := acall_of mix31 Try.func11 ok31_net_Net_Len h
theorem ok31_net_Net_is : cFun Try.prog H_net_Net_is Try.f22 = some (c_net_Net_is F31) := by kernel_rfl
theorem a31_net_Net_is {xs : List Arg} {rv : RV} {outs : List Blk} (h : (c_net_Net_is F31).gives (ACall Try.prog) xs rv outs) : ACall Try.prog (F31 n_net_Net_is) xs rv outs := acall_of mix31 Try.func22 ok31_net_Net_is h
theorem ok31_net_Net_Look : cFun Try.prog H_net_Net_Look Try.f13 = some (c_net_Net_Look F31) := by kernel_rfl
theorem a31_net_Net_Look {xs : List Arg} {rv : RV} {outs : List Blk} (h : (c_net_Net_Look F31).gives (ACall Try.prog) xs rv outs) : ACall Try.prog (F31 n_net_Net_Look) xs rv outs := acall_of mix31 Try.func13 ok31_net_Net_Look h
theorem ok31_net_Net_Len__nil : cFun Try.prog H_net_Net_Len__nil Try.f11 = some (c_net_Net_Len__nil F31) := by kernel_rfl
theorem a31_net_Net_Len__nil {xs : List Arg} {rv : RV} {outs : List Blk} (h : (c_net_Net_Len__nil F31).gives (ACall Try.prog) xs rv outs) : ACall Try.prog (F31 n_net_Net_Len) xs rv outs := acall_of mix31 Try.func11 ok31_net_Net_Len__nil h
theorem ok31_net_Net_is__nil : cFun Try.prog H_net_Net_is__nil Try.f22 = some (c_net_Net_is__nil F31) := by kernel_rfl
theorem a31_net_Net_is__nil {xs : List Arg} {rv : RV} {outs : List Blk} (h : (c_net_Net_is__nil F31).gives (ACall Try.prog) xs rv outs) : ACall Try.prog (F31 n_net_Net_is) xs rv outs := acall_of mix31 Try.func22 ok31_net_Net_is__nil h
theorem ok31_net_Net_Look__nil : cFun Try.prog H_net_Net_Look__nil Try.f13 = some (c_net_Net_Look__nil F31) := by kernel_rfl
theorem a31_net_Net_Look__nil {xs : List Arg} {rv : RV} {outs : List Blk} (h : (c_net_Net_Look__nil F31).gives (ACall Try.prog) xs rv outs) : ACall Try.prog (F31 n_net_Net_Look) xs rv outs := acall_of mix31 Try.func13 ok31_net_Net_Look__nil h
theorem ok31_slices_Clone_net_Flight_net_Flight : cFun Try.prog H_slices_Clone_net_Flight_net_Flight Try.f16 = some (c_slices_Clone_net_Flight_net_Flight F31) := by kernel_rfl
theorem a31_slices_Clone_net_Flight_net_Flight {xs : List Arg} {rv : RV} {outs : List Blk} (h : (c_slices_Clone_net_Flight_net_Flight F31).gives (ACall Try.prog) xs rv outs) : ACall Try.prog (F31 n_slices_Clone_net_Flight_net_Flight) xs rv outs := acall_of mix31 Try.func16 ok31_slices_Clone_net_Flight_net_Flight h
end Go.AR

/-! The contracts of the seat. Printed by program. -/
namespace Go.AR
open Go Go.Proofs
theorem t31_net_Len : S_nLen (C31 (F31 n_net_Net_Len)) := by unfold S_nLen; intros; apply a31_net_Net_Len; apply g_net_Len (C := C31) (F := F31)  <;> assumption
theorem t31_net_is : S_nIs (C31 (F31 n_net_Net_is)) := by unfold S_nIs; intros; apply a31_net_Net_is; apply g_net_is (C := C31) (F := F31) t31_net_Len <;> assumption
theorem t31_net_Look : S_nLook (C31 (F31 n_net_Net_Look)) := by unfold S_nLook; intros; apply a31_net_Net_Look; apply g_net_Look (C := C31) (F := F31) t31_net_is <;> assumption
theorem t31_net_Len0 : S_nLen0 (C31 (F31 n_net_Net_Len)) := by unfold S_nLen0; intros; apply a31_net_Net_Len__nil; apply g_net_Len0 (C := C31) (F := F31)  <;> assumption
theorem t31_net_is0 : S_nIs0 (C31 (F31 n_net_Net_is)) := by unfold S_nIs0; intros; apply a31_net_Net_is__nil; apply g_net_is0 (C := C31) (F := F31) t31_net_Len0 <;> assumption
theorem t31_net_Look0 : S_nLook0 (C31 (F31 n_net_Net_Look)) := by unfold S_nLook0; intros; apply a31_net_Net_Look__nil; apply g_net_Look0 (C := C31) (F := F31) t31_net_is0 <;> assumption
theorem t31_slices_Clone_Flight : S_fClone (C31 (F31 n_slices_Clone_net_Flight_net_Flight)) := by unfold S_fClone; intros; apply a31_slices_Clone_net_Flight_net_Flight; apply g_slices_Clone_Flight (C := C31) (F := F31)  <;> assumption
end Go.AR
