import Derived.Test.YtphggkbbjnpaeaaG31
import Derived.Test.YtphggkbbjnpaeaaG41
import Derived.Test.YtphggkbbjnpaeaaG03
set_option linter.all false
/-! slices.Insert at the seat. Printed by program. -/
namespace Go.AR
open Go Go.Proofs Go.Shelf
def rin15 : Ren := { f := fun | 22 => 27 | 29 => 43 | 30 => 44 | n => n, t := fun | 0 => 0 | 3 => 3 | 4 => 4 | 9 => 26 | 24 => 37 | n => n, g := fun n => n }
theorem over15 : Try.prog.funcs[rin15.f 29]? = some Try.f43 := by kernel_rfl
theorem lins15 : LIns Try.prog rin15 "slices.Insert[[]palinode/api.Value,palinode/api.Value]" #[37, 26] 3 32 (.agg #[.int .i64 (0), .int .i64 (0), .string ⟨#[]⟩]) := { mixed := mix15, f22 := by kernel_rfl, ov := fun va w v h => by rw [run_callFunc_extern over15 (by kernel_rfl) (by kernel_rfl) (by kernel_rfl) (e := Extern.SlicesOverlaps.overlaps #[rin15.t 24, rin15.t 24] #[rin15.t 4]) (by kernel_rfl), h]; rfl, t0 := Try.underlying0, a0 := Try.isAgg0, z0 := Try.sizeOf0, v0 := Try.zeroValue0, t3 := Try.underlying3, a3 := Try.isAgg3, z3 := Try.sizeOf3, v3 := Try.zeroValue3, t4 := Try.underlying4, a4 := Try.isAgg4, z4 := Try.sizeOf4, v4 := Try.zeroValue4, t24 := Try.underlying37, a24 := Try.isAgg37, z24 := Try.sizeOf37, v24 := Try.zeroValue37, z9 := Try.sizeOf26, i9 := by kernel_rfl, nmok := by decide, pos := by decide, bpos := by decide, zc := by rfl }
theorem t15_Insert : S_Insert 3 32 (C15 (F15 n_slices_Insert_api_Value_api_Value)) := by rw [show F15 n_slices_Insert_api_Value_api_Value = rin15.f 22 by kernel_rfl]; intro rows i r h1 h2 h3; exact (acall_Insert lins15 rows i r h1 h2 h3)
end Go.AR
