import Derived.Test.YtfipbmlnklmjoaaDoorG29
import Derived.Test.YtfipbmlnklmjoaaDoorG40
set_option linter.all false
/-! strings.Builder at the seat. Printed by program. -/
namespace Go.AR
open Go Go.Proofs Go.Shelf
def ren10 : Ren := { f := fun | 169 => 62 | 240 => 70 | 276 => 73 | n => n, t := fun | 0 => 0 | 3 => 3 | 4 => 4 | 5 => 5 | 9 => 9 | 20 => 20 | 37 => 59 | 70 => 70 | 72 => 72 | 127 => 83 | 164 => 84 | n => n, g := fun n => n }
theorem l240_10 : Lays.n240 Tryd.prog ren10 := { mixed := mix10, f240 := by kernel_rfl, f276 := by kernel_rfl, t0 := Tryd.underlying0, a0 := Tryd.isAgg0, z0 := Tryd.sizeOf0, v0 := Tryd.zeroValue0, t4 := Tryd.underlying4, a4 := Tryd.isAgg4, z4 := Tryd.sizeOf4, v4 := Tryd.zeroValue4, t9 := Tryd.underlying9, a9 := Tryd.isAgg9, z9 := Tryd.sizeOf9, v9 := Tryd.zeroValue9, t20 := Tryd.underlying20, a20 := Tryd.isAgg20, z20 := Tryd.sizeOf20, v20 := Tryd.zeroValue20, t70 := Tryd.underlying70, a70 := Tryd.isAgg70, z70 := Tryd.sizeOf70, v70 := Tryd.zeroValue70, t72 := Tryd.underlying72, a72 := Tryd.isAgg72, z72 := Tryd.sizeOf72, v72 := Tryd.zeroValue72, t164 := Tryd.underlying84, a164 := Tryd.isAgg84, z164 := Tryd.sizeOf84, v164 := Tryd.zeroValue84 }
theorem l169_10 : Lays.n169 Tryd.prog ren10 := { mixed := mix10, f169 := by kernel_rfl, t0 := Tryd.underlying0, a0 := Tryd.isAgg0, z0 := Tryd.sizeOf0, v0 := Tryd.zeroValue0, t3 := Tryd.underlying3, a3 := Tryd.isAgg3, z3 := Tryd.sizeOf3, v3 := Tryd.zeroValue3, t9 := Tryd.underlying9, a9 := Tryd.isAgg9, z9 := Tryd.sizeOf9, v9 := Tryd.zeroValue9, t37 := Tryd.underlying59, a37 := Tryd.isAgg59, z37 := Tryd.sizeOf59, v37 := Tryd.zeroValue59, t70 := Tryd.underlying70, a70 := Tryd.isAgg70, z70 := Tryd.sizeOf70, v70 := Tryd.zeroValue70, t72 := Tryd.underlying72, a72 := Tryd.isAgg72, z72 := Tryd.sizeOf72, v72 := Tryd.zeroValue72, t127 := Tryd.underlying83, a127 := Tryd.isAgg83, z127 := Tryd.sizeOf83, v127 := Tryd.zeroValue83 }
theorem t10_copyCheck : S_copyCheck (F10 n_T_strings_Builder) (C10 (F10 n_strings_Builder_copyCheck)) := by
  rw [show F10 n_T_strings_Builder = ren10.t 72 by kernel_rfl, show F10 n_strings_Builder_copyCheck = ren10.f 240 by kernel_rfl]
  have h := acall_copyCheck l240_10 (by kernel_rfl) (by kernel_rfl)
  intro x o hx; exact ACall.inv (h x o hx)
theorem t10_BString : S_BString (F10 n_T_strings_Builder) (F10 n_T_uint8) (C10 (F10 n_strings_Builder_String)) := by
  rw [show F10 n_T_strings_Builder = ren10.t 72 by kernel_rfl, show F10 n_T_uint8 = ren10.t 5 by kernel_rfl, show F10 n_strings_Builder_String = ren10.f 169 by kernel_rfl]
  have h := acall_String l169_10 Tryd.underlying5 (by kernel_rfl)
  intro x l; exact ACall.inv (h x l)
end Go.AR
