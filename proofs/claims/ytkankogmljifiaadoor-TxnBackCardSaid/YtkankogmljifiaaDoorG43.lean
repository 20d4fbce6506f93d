import Derived.Test.YtkankogmljifiaaDoorG28
import Derived.Test.YtkankogmljifiaaDoorG42
set_option linter.all false
/-! strings.Builder at the seat. Printed by program. -/
namespace Go.AR
open Go Go.Proofs Go.Shelf
def ren12 : Ren := { f := fun | 169 => 89 | 240 => 113 | 276 => 124 | n => n, t := fun | 0 => 0 | 3 => 3 | 4 => 4 | 5 => 5 | 9 => 9 | 20 => 20 | 37 => 100 | 70 => 99 | 72 => 102 | 127 => 121 | 164 => 130 | n => n, g := fun n => n }
theorem l240_12 : Lays.n240 Tryd.prog ren12 := { mixed := mix12, f240 := by kernel_rfl, f276 := by kernel_rfl, t0 := Tryd.underlying0, a0 := Tryd.isAgg0, z0 := Tryd.sizeOf0, v0 := Tryd.zeroValue0, t4 := Tryd.underlying4, a4 := Tryd.isAgg4, z4 := Tryd.sizeOf4, v4 := Tryd.zeroValue4, t9 := Tryd.underlying9, a9 := Tryd.isAgg9, z9 := Tryd.sizeOf9, v9 := Tryd.zeroValue9, t20 := Tryd.underlying20, a20 := Tryd.isAgg20, z20 := Tryd.sizeOf20, v20 := Tryd.zeroValue20, t70 := Tryd.underlying99, a70 := Tryd.isAgg99, z70 := Tryd.sizeOf99, v70 := Tryd.zeroValue99, t72 := Tryd.underlying102, a72 := Tryd.isAgg102, z72 := Tryd.sizeOf102, v72 := Tryd.zeroValue102, t164 := Tryd.underlying130, a164 := Tryd.isAgg130, z164 := Tryd.sizeOf130, v164 := Tryd.zeroValue130 }
theorem l169_12 : Lays.n169 Tryd.prog ren12 := { mixed := mix12, f169 := by kernel_rfl, t0 := Tryd.underlying0, a0 := Tryd.isAgg0, z0 := Tryd.sizeOf0, v0 := Tryd.zeroValue0, t3 := Tryd.underlying3, a3 := Tryd.isAgg3, z3 := Tryd.sizeOf3, v3 := Tryd.zeroValue3, t9 := Tryd.underlying9, a9 := Tryd.isAgg9, z9 := Tryd.sizeOf9, v9 := Tryd.zeroValue9, t37 := Tryd.underlying100, a37 := Tryd.isAgg100, z37 := Tryd.sizeOf100, v37 := Tryd.zeroValue100, t70 := Tryd.underlying99, a70 := Tryd.isAgg99, z70 := Tryd.sizeOf99, v70 := Tryd.zeroValue99, t72 := Tryd.underlying102, a72 := Tryd.isAgg102, z72 := Tryd.sizeOf102, v72 := Tryd.zeroValue102, t127 := Tryd.underlying121, a127 := Tryd.isAgg121, z127 := Tryd.sizeOf121, v127 := Tryd.zeroValue121 }
theorem t12_copyCheck : S_copyCheck (F12 n_T_strings_Builder) (C12 (F12 n_strings_Builder_copyCheck)) := by
  rw [show F12 n_T_strings_Builder = ren12.t 72 by kernel_rfl, show F12 n_strings_Builder_copyCheck = ren12.f 240 by kernel_rfl]
  have h := acall_copyCheck l240_12 (by kernel_rfl) (by kernel_rfl)
  intro x o hx; exact ACall.inv (h x o hx)
theorem t12_BString : S_BString (F12 n_T_strings_Builder) (F12 n_T_uint8) (C12 (F12 n_strings_Builder_String)) := by
  rw [show F12 n_T_strings_Builder = ren12.t 72 by kernel_rfl, show F12 n_T_uint8 = ren12.t 5 by kernel_rfl, show F12 n_strings_Builder_String = ren12.f 169 by kernel_rfl]
  have h := acall_String l169_12 Tryd.underlying5 (by kernel_rfl)
  intro x l; exact ACall.inv (h x l)
end Go.AR
