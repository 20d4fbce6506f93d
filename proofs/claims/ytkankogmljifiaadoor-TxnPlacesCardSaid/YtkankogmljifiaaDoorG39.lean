import Derived.Test.YtkankogmljifiaaDoorG35
import Derived.Test.YtkankogmljifiaaDoorG38
set_option linter.all false
/-! slices.Insert at the seat. Printed by program. -/
namespace Go.AR
open Go Go.Proofs Go.Shelf
def rin12 : Ren := { f := fun | 22 => 61 | 29 => 96 | 30 => 97 | n => n, t := fun | 0 => 0 | 3 => 3 | 4 => 4 | 9 => 26 | 24 => 35 | n => n, g := fun n => n }
theorem over12 : Tryd.prog.funcs[rin12.f 29]? = some Tryd.f96 := by kernel_rfl
theorem lins12 : LIns Tryd.prog rin12 "slices.Insert[[]palinode/api.Txn,palinode/api.Txn]" #[35, 26] 6 64 (.agg #[.int .i64 (0), .int .i64 (0), .int .i64 (0), .int .i64 (0), .bool false, .slice none 0 0]) := { mixed := mix12, f22 := by kernel_rfl, ov := fun va w v h => by rw [run_callFunc_extern over12 (by kernel_rfl) (by kernel_rfl) (by kernel_rfl) (e := Extern.SlicesOverlaps.overlaps #[rin12.t 24, rin12.t 24] #[rin12.t 4]) (by kernel_rfl), h]; rfl, t0 := Tryd.underlying0, a0 := Tryd.isAgg0, z0 := Tryd.sizeOf0, v0 := Tryd.zeroValue0, t3 := Tryd.underlying3, a3 := Tryd.isAgg3, z3 := Tryd.sizeOf3, v3 := Tryd.zeroValue3, t4 := Tryd.underlying4, a4 := Tryd.isAgg4, z4 := Tryd.sizeOf4, v4 := Tryd.zeroValue4, t24 := Tryd.underlying35, a24 := Tryd.isAgg35, z24 := Tryd.sizeOf35, v24 := Tryd.zeroValue35, z9 := Tryd.sizeOf26, i9 := by kernel_rfl, nmok := by decide, pos := by decide, bpos := by decide, zc := by rfl }
theorem t12_Insert : S_Insert 6 64 (C12 (F12 n_slices_Insert_api_Txn_api_Txn)) := by rw [show F12 n_slices_Insert_api_Txn_api_Txn = rin12.f 22 by kernel_rfl]; intro rows i r h1 h2 h3; exact ACall.inv (acall_Insert lins12 rows i r h1 h2 h3)
end Go.AR
