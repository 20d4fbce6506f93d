import Derived.Test.YtphggkbbjnpaeaaG38
import Derived.Test.YtphggkbbjnpaeaaG41
import Derived.Test.YtphggkbbjnpaeaaG03
set_option linter.all false
/-! strings.Compare at the seat. Printed by program. -/
namespace Go.AR
open Go Go.Proofs Go.Shelf
def renM15 : Ren := { f := fun | 106 => 42 | 213 => 56 | 265 => 65 | n => n, t := fun | 3 => 3 | 9 => 9 | n => n, g := fun n => n }
theorem lM15 : Lays.n106 Try.prog renM15 := { mixed := mix15, f106 := by kernel_rfl, f213 := by kernel_rfl, f265 := by kernel_rfl, t3 := Try.underlying3, a3 := Try.isAgg3, z3 := Try.sizeOf3, v3 := Try.zeroValue3, t9 := Try.underlying9, a9 := Try.isAgg9, z9 := Try.sizeOf9, v9 := Try.zeroValue9 }
theorem t15_scmp : S_scmp (C15 (F15 n_strings_Compare)) := by
  rw [show F15 n_strings_Compare = renM15.f 106 by kernel_rfl]
  have h := acall_scmp lM15
  intro x y; exact (h x y)
end Go.AR
