import Derived.Test.YtcpkejkpabgabaaDoorBld
import Derived.Test.YtcpkejkpabgabaaDoorSeat03
set_option linter.all false
/-! strings.Builder at the seat. Printed by program. -/
namespace Go.AR
open Go Go.Proofs Go.Shelf
def ren03 : Ren := { f := fun | 169 => 20 | 240 => 25 | 276 => 27 | n => n, t := fun | 0 => 0 | 3 => 3 | 4 => 4 | 5 => 5 | 9 => 9 | 20 => 20 | 37 => 36 | 70 => 37 | 72 => 39 | 127 => 50 | 164 => 51 | n => n, g := fun n => n }
theorem l240_03 : Lays.n240 Tryd.prog ren03 := { mixed := mix03, f240 := by kernel_rfl, f276 := by kernel_rfl, t0 := Tryd.underlying0, a0 := Tryd.isAgg0, z0 := Tryd.sizeOf0, v0 := Tryd.zeroValue0, t4 := Tryd.underlying4, a4 := Tryd.isAgg4, z4 := Tryd.sizeOf4, v4 := Tryd.zeroValue4, t9 := Tryd.underlying9, a9 := Tryd.isAgg9, z9 := Tryd.sizeOf9, v9 := Tryd.zeroValue9, t20 := Tryd.underlying20, a20 := Tryd.isAgg20, z20 := Tryd.sizeOf20, v20 := Tryd.zeroValue20, t70 := Tryd.underlying37, a70 := Tryd.isAgg37, z70 := Tryd.sizeOf37, v70 := Tryd.zeroValue37, t72 := Tryd.underlying39, a72 := Tryd.isAgg39, z72 := Tryd.sizeOf39, v72 := Tryd.zeroValue39, t164 := Tryd.underlying51, a164 := Tryd.isAgg51, z164 := Tryd.sizeOf51, v164 := Tryd.zeroValue51 }
theorem l169_03 : Lays.n169 Tryd.prog ren03 := { mixed := mix03, f169 := by kernel_rfl, t0 := Tryd.underlying0, a0 := Tryd.isAgg0, z0 := Tryd.sizeOf0, v0 := Tryd.zeroValue0, t3 := Tryd.underlying3, a3 := Tryd.isAgg3, z3 := Tryd.sizeOf3, v3 := Tryd.zeroValue3, t9 := Tryd.underlying9, a9 := Tryd.isAgg9, z9 := Tryd.sizeOf9, v9 := Tryd.zeroValue9, t37 := Tryd.underlying36, a37 := Tryd.isAgg36, z37 := Tryd.sizeOf36, v37 := Tryd.zeroValue36, t70 := Tryd.underlying37, a70 := Tryd.isAgg37, z70 := Tryd.sizeOf37, v70 := Tryd.zeroValue37, t72 := Tryd.underlying39, a72 := Tryd.isAgg39, z72 := Tryd.sizeOf39, v72 := Tryd.zeroValue39, t127 := Tryd.underlying50, a127 := Tryd.isAgg50, z127 := Tryd.sizeOf50, v127 := Tryd.zeroValue50 }
theorem t03_copyCheck : S_copyCheck (F03 n_T_strings_Builder) (C03 (F03 n_strings_Builder_copyCheck)) := by
  rw [show F03 n_T_strings_Builder = ren03.t 72 by kernel_rfl, show F03 n_strings_Builder_copyCheck = ren03.f 240 by kernel_rfl]
  have h := acall_copyCheck l240_03 (by kernel_rfl) (by kernel_rfl)
  intro x o hx; exact ACall.inv (h x o hx)
theorem t03_BString : S_BString (F03 n_T_strings_Builder) (F03 n_T_uint8) (C03 (F03 n_strings_Builder_String)) := by
  rw [show F03 n_T_strings_Builder = ren03.t 72 by kernel_rfl, show F03 n_T_uint8 = ren03.t 5 by kernel_rfl, show F03 n_strings_Builder_String = ren03.f 169 by kernel_rfl]
  have h := acall_String l169_03 Tryd.underlying5 (by kernel_rfl)
  intro x l; exact ACall.inv (h x l)
end Go.AR
