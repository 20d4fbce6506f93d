import Derived.Test.YtmplidjdcmfeaaaDoorG28
import Derived.Test.YtmplidjdcmfeaaaDoorG40
set_option linter.all false
/-! strings.Builder at the seat. Printed by program. -/
namespace Go.AR
open Go Go.Proofs Go.Shelf
def ren11 : Ren := { f := fun | 169 => 80 | 240 => 93 | 276 => 95 | n => n, t := fun | 0 => 0 | 3 => 3 | 4 => 4 | 5 => 5 | 9 => 9 | 20 => 20 | 37 => 86 | 70 => 85 | 72 => 88 | 127 => 103 | 164 => 106 | n => n, g := fun n => n }
theorem l240_11 : Lays.n240 Tryd.prog ren11 := { mixed := mix11, f240 := by kernel_rfl, f276 := by kernel_rfl, t0 := Tryd.underlying0, a0 := Tryd.isAgg0, z0 := Tryd.sizeOf0, v0 := Tryd.zeroValue0, t4 := Tryd.underlying4, a4 := Tryd.isAgg4, z4 := Tryd.sizeOf4, v4 := Tryd.zeroValue4, t9 := Tryd.underlying9, a9 := Tryd.isAgg9, z9 := Tryd.sizeOf9, v9 := Tryd.zeroValue9, t20 := Tryd.underlying20, a20 := Tryd.isAgg20, z20 := Tryd.sizeOf20, v20 := Tryd.zeroValue20, t70 := Tryd.underlying85, a70 := Tryd.isAgg85, z70 := Tryd.sizeOf85, v70 := Tryd.zeroValue85, t72 := Tryd.underlying88, a72 := Tryd.isAgg88, z72 := Tryd.sizeOf88, v72 := Tryd.zeroValue88, t164 := Tryd.underlying106, a164 := Tryd.isAgg106, z164 := Tryd.sizeOf106, v164 := Tryd.zeroValue106 }
theorem l169_11 : Lays.n169 Tryd.prog ren11 := { mixed := mix11, f169 := by kernel_rfl, t0 := Tryd.underlying0, a0 := Tryd.isAgg0, z0 := Tryd.sizeOf0, v0 := Tryd.zeroValue0, t3 := Tryd.underlying3, a3 := Tryd.isAgg3, z3 := Tryd.sizeOf3, v3 := Tryd.zeroValue3, t9 := Tryd.underlying9, a9 := Tryd.isAgg9, z9 := Tryd.sizeOf9, v9 := Tryd.zeroValue9, t37 := Tryd.underlying86, a37 := Tryd.isAgg86, z37 := Tryd.sizeOf86, v37 := Tryd.zeroValue86, t70 := Tryd.underlying85, a70 := Tryd.isAgg85, z70 := Tryd.sizeOf85, v70 := Tryd.zeroValue85, t72 := Tryd.underlying88, a72 := Tryd.isAgg88, z72 := Tryd.sizeOf88, v72 := Tryd.zeroValue88, t127 := Tryd.underlying103, a127 := Tryd.isAgg103, z127 := Tryd.sizeOf103, v127 := Tryd.zeroValue103 }
theorem t11_copyCheck : S_copyCheck (F11 n_T_strings_Builder) (C11 (F11 n_strings_Builder_copyCheck)) := by
  rw [show F11 n_T_strings_Builder = ren11.t 72 by kernel_rfl, show F11 n_strings_Builder_copyCheck = ren11.f 240 by kernel_rfl]
  have h := acall_copyCheck l240_11 (by kernel_rfl) (by kernel_rfl)
  intro x o hx; exact ACall.inv (h x o hx)
theorem t11_BString : S_BString (F11 n_T_strings_Builder) (F11 n_T_uint8) (C11 (F11 n_strings_Builder_String)) := by
  rw [show F11 n_T_strings_Builder = ren11.t 72 by kernel_rfl, show F11 n_T_uint8 = ren11.t 5 by kernel_rfl, show F11 n_strings_Builder_String = ren11.f 169 by kernel_rfl]
  have h := acall_String l169_11 Tryd.underlying5 (by kernel_rfl)
  intro x l; exact ACall.inv (h x l)
end Go.AR
