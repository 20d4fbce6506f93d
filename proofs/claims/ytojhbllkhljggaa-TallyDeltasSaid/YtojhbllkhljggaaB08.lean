import Derived.Test.YtojhbllkhljggaaIns2
import Derived.Test.YtojhbllkhljggaaSeat08
set_option linter.all false
/-! slices.Insert at the seat. Printed by program. -/
namespace Go.AR
open Go Go.Proofs Go.Shelf
def rin08 : Ren := { f := fun | 22 => 29 | 29 => 36 | 30 => 37 | n => n, t := fun | 0 => 0 | 3 => 3 | 4 => 4 | 9 => 29 | 24 => 22 | n => n, g := fun n => n }
theorem over08 : Try.prog.funcs[rin08.f 29]? = some Try.f36 := by kernel_rfl
theorem lins08 : LIns Try.prog rin08 "slices.Insert[[]palinode/api.Undo,palinode/api.Undo]" #[22, 29] 3 24 (.agg #[.int .i64 (0), .int .i64 (0), .int .i64 (0)]) := { mixed := mix08, f22 := by kernel_rfl, ov := fun va w v h => by rw [run_callFunc_extern over08 (by kernel_rfl) (by kernel_rfl) (by kernel_rfl) (e := Extern.SlicesOverlaps.overlaps #[rin08.t 24, rin08.t 24] #[rin08.t 4]) (by kernel_rfl), h]; rfl, t0 := Try.underlying0, a0 := Try.isAgg0, z0 := Try.sizeOf0, v0 := Try.zeroValue0, t3 := Try.underlying3, a3 := Try.isAgg3, z3 := Try.sizeOf3, v3 := Try.zeroValue3, t4 := Try.underlying4, a4 := Try.isAgg4, z4 := Try.sizeOf4, v4 := Try.zeroValue4, t24 := Try.underlying22, a24 := Try.isAgg22, z24 := Try.sizeOf22, v24 := Try.zeroValue22, z9 := Try.sizeOf29, i9 := by kernel_rfl, nmok := by decide, pos := by decide, bpos := by decide, zc := by rfl }
theorem t08_Insert : S_Insert 3 24 (C08 (F08 n_slices_Insert_api_Undo_api_Undo)) := by rw [show F08 n_slices_Insert_api_Undo_api_Undo = rin08.f 22 by kernel_rfl]; exact acall_Insert lins08
end Go.AR
