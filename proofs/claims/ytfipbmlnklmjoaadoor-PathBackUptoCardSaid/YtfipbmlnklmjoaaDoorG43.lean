import Derived.Test.YtfipbmlnklmjoaaDoorG36
import Derived.Test.YtfipbmlnklmjoaaDoorG40
set_option linter.all false
/-! strings.Join at the seat. Printed by program. -/
namespace Go.AR
open Go Go.Proofs Go.Shelf
def renJ10 : Ren := { f := fun | 156 => 41 | 165 => 63 | 166 => 64 | 169 => 62 | 240 => 70 | 241 => 71 | 276 => 73 | 277 => 74 | n => n, t := fun | 0 => 0 | 3 => 3 | 4 => 4 | 5 => 5 | 9 => 9 | 20 => 20 | 31 => 23 | 37 => 59 | 70 => 70 | 72 => 72 | 75 => 74 | 76 => 76 | 80 => 56 | 127 => 83 | 164 => 84 | n => n, g := fun n => n }
theorem lJ10 : Lays.n156 Tryd.prog renJ10 := { mixed := mix10, f156 := by kernel_rfl, f165 := by kernel_rfl, f166 := by kernel_rfl, f169 := by kernel_rfl, f240 := by kernel_rfl, f241 := by kernel_rfl, f276 := by kernel_rfl, f277 := by kernel_rfl, t0 := Tryd.underlying0, a0 := Tryd.isAgg0, z0 := Tryd.sizeOf0, v0 := Tryd.zeroValue0, t3 := Tryd.underlying3, a3 := Tryd.isAgg3, z3 := Tryd.sizeOf3, v3 := Tryd.zeroValue3, t4 := Tryd.underlying4, a4 := Tryd.isAgg4, z4 := Tryd.sizeOf4, v4 := Tryd.zeroValue4, t9 := Tryd.underlying9, a9 := Tryd.isAgg9, z9 := Tryd.sizeOf9, v9 := Tryd.zeroValue9, t20 := Tryd.underlying20, a20 := Tryd.isAgg20, z20 := Tryd.sizeOf20, v20 := Tryd.zeroValue20, t31 := Tryd.underlying23, a31 := Tryd.isAgg23, z31 := Tryd.sizeOf23, v31 := Tryd.zeroValue23, t37 := Tryd.underlying59, a37 := Tryd.isAgg59, z37 := Tryd.sizeOf59, v37 := Tryd.zeroValue59, t70 := Tryd.underlying70, a70 := Tryd.isAgg70, z70 := Tryd.sizeOf70, v70 := Tryd.zeroValue70, t72 := Tryd.underlying72, a72 := Tryd.isAgg72, z72 := Tryd.sizeOf72, v72 := Tryd.zeroValue72, t75 := Tryd.underlying74, a75 := Tryd.isAgg74, z75 := Tryd.sizeOf74, v75 := Tryd.zeroValue74, t76 := Tryd.underlying76, a76 := Tryd.isAgg76, z76 := Tryd.sizeOf76, v76 := Tryd.zeroValue76, t127 := Tryd.underlying83, a127 := Tryd.isAgg83, z127 := Tryd.sizeOf83, v127 := Tryd.zeroValue83, t164 := Tryd.underlying84, a164 := Tryd.isAgg84, z164 := Tryd.sizeOf84, v164 := Tryd.zeroValue84 }
theorem xJ10 : Builder.Extra Tryd.prog renJ10 := { sizeBuilder := by kernel_rfl, liesBuilder := by kernel_rfl, t5 := Tryd.underlying5, a5 := Tryd.isAgg5, z5 := Tryd.sizeOf5, v5 := Tryd.zeroValue5, infoByte := by kernel_rfl, cellsByte := by kernel_rfl, sizeByte := by kernel_rfl, neB5 := by decide }
theorem t10_Join : S_join (C10 (F10 n_strings_Join)) := by
  rw [show F10 n_strings_Join = renJ10.f 156 by kernel_rfl]
  have h := acall_Join lJ10 xJ10
  intro p s hp hj; exact ACall.inv (h p s hp hj)
end Go.AR
