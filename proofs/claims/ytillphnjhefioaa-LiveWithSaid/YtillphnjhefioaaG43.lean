import Derived.Test.YtillphnjhefioaaG31
import Derived.Test.YtillphnjhefioaaG42
set_option linter.all false
/-! slices.Insert at the seat. Printed by program. -/
namespace Go.AR
open Go Go.Proofs Go.Shelf
def rin13 : Ren := { f := fun | 22 => 70 | 29 => 84 | 30 => 85 | n => n, t := fun | 0 => 0 | 3 => 3 | 4 => 4 | 9 => 34 | 24 => 22 | n => n, g := fun n => n }
theorem over13 : Try.prog.funcs[rin13.f 29]? = some Try.f84 := by kernel_rfl
theorem lins13 : LIns Try.prog rin13 "slices.Insert[[]palinode/api.Txn,palinode/api.Txn]" #[22, 34] 6 64 (.agg #[.int .i64 (0), .int .i64 (0), .int .i64 (0), .int .i64 (0), .bool false, .slice none 0 0]) := { mixed := mix13, f22 := by kernel_rfl, ov := fun va w v h => by rw [run_callFunc_extern over13 (by kernel_rfl) (by kernel_rfl) (by kernel_rfl) (e := Extern.SlicesOverlaps.overlaps #[rin13.t 24, rin13.t 24] #[rin13.t 4]) (by kernel_rfl), h]; rfl, t0 := Try.underlying0, a0 := Try.isAgg0, z0 := Try.sizeOf0, v0 := Try.zeroValue0, t3 := Try.underlying3, a3 := Try.isAgg3, z3 := Try.sizeOf3, v3 := Try.zeroValue3, t4 := Try.underlying4, a4 := Try.isAgg4, z4 := Try.sizeOf4, v4 := Try.zeroValue4, t24 := Try.underlying22, a24 := Try.isAgg22, z24 := Try.sizeOf22, v24 := Try.zeroValue22, z9 := Try.sizeOf34, i9 := by kernel_rfl, nmok := by decide, pos := by decide, bpos := by decide, zc := by rfl }
theorem t13_Insert : S_Insert 6 64 (C13 (F13 n_slices_Insert_api_Txn_api_Txn)) := by rw [show F13 n_slices_Insert_api_Txn_api_Txn = rin13.f 22 by kernel_rfl]; intro rows i r h1 h2 h3; exact (acall_Insert lins13 rows i r h1 h2 h3)
end Go.AR

/-! slices.Insert at the seat. Printed by program. -/
namespace Go.AR
open Go Go.Proofs Go.Shelf
def rin13u : Ren := { f := fun | 22 => 56 | 29 => 74 | 30 => 75 | n => n, t := fun | 0 => 0 | 3 => 3 | 4 => 4 | 9 => 66 | 24 => 23 | n => n, g := fun n => n }
theorem over13u : Try.prog.funcs[rin13u.f 29]? = some Try.f74 := by kernel_rfl
theorem lins13u : LIns Try.prog rin13u "slices.Insert[[]palinode/api.Undo,palinode/api.Undo]" #[23, 66] 3 24 (.agg #[.int .i64 (0), .int .i64 (0), .int .i64 (0)]) := { mixed := mix13, f22 := by kernel_rfl, ov := fun va w v h => by rw [run_callFunc_extern over13u (by kernel_rfl) (by kernel_rfl) (by kernel_rfl) (e := Extern.SlicesOverlaps.overlaps #[rin13u.t 24, rin13u.t 24] #[rin13u.t 4]) (by kernel_rfl), h]; rfl, t0 := Try.underlying0, a0 := Try.isAgg0, z0 := Try.sizeOf0, v0 := Try.zeroValue0, t3 := Try.underlying3, a3 := Try.isAgg3, z3 := Try.sizeOf3, v3 := Try.zeroValue3, t4 := Try.underlying4, a4 := Try.isAgg4, z4 := Try.sizeOf4, v4 := Try.zeroValue4, t24 := Try.underlying23, a24 := Try.isAgg23, z24 := Try.sizeOf23, v24 := Try.zeroValue23, z9 := Try.sizeOf66, i9 := by kernel_rfl, nmok := by decide, pos := by decide, bpos := by decide, zc := by rfl }
theorem t13_InsertU : S_Insert 3 24 (C13 (F13 n_slices_Insert_api_Undo_api_Undo)) := by rw [show F13 n_slices_Insert_api_Undo_api_Undo = rin13u.f 22 by kernel_rfl]; intro rows i r h1 h2 h3; exact (acall_Insert lins13u rows i r h1 h2 h3)
end Go.AR
