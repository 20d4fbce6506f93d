import Derived.Test.YtkankogmljifiaaDoorG26
import Derived.Test.YtkankogmljifiaaDoorG42
import Derived.Lib.LaidU8
import Derived.Test.YtkankogmljifiaaDoorRows
set_option linter.all false
/-! Go's tables of characters at the seat. Printed by program. -/
namespace Go.AR
open Go Go.Proofs Go.Shelf Go.Lib
def renU12 : Ren := { f := fun | 260 => 127 | n => n, t := fun | 0 => 0 | 3 => 3 | 4 => 4 | 5 => 5 | 9 => 9 | 21 => 21 | 46 => 106 | 105 => 133 | 119 => 135 | 138 => 137 | 139 => 138 | n => n, g := fun | 3 => 0 | 4 => 1 | n => n }
theorem lU12 : Lays.n260 Tryd.prog renU12 := { mixed := mix12, f260 := by kernel_rfl, t0 := Tryd.underlying0, a0 := Tryd.isAgg0, z0 := Tryd.sizeOf0, v0 := Tryd.zeroValue0, t3 := Tryd.underlying3, a3 := Tryd.isAgg3, z3 := Tryd.sizeOf3, v3 := Tryd.zeroValue3, t4 := Tryd.underlying4, a4 := Tryd.isAgg4, z4 := Tryd.sizeOf4, v4 := Tryd.zeroValue4, t5 := Tryd.underlying5, a5 := Tryd.isAgg5, z5 := Tryd.sizeOf5, v5 := Tryd.zeroValue5, t9 := Tryd.underlying9, a9 := Tryd.isAgg9, z9 := Tryd.sizeOf9, v9 := Tryd.zeroValue9, t21 := Tryd.underlying21, a21 := Tryd.isAgg21, z21 := Tryd.sizeOf21, v21 := Tryd.zeroValue21, t46 := Tryd.underlying106, a46 := Tryd.isAgg106, z46 := Tryd.sizeOf106, v46 := Tryd.zeroValue106, t119 := Tryd.underlying135, a119 := Tryd.isAgg135, z119 := Tryd.sizeOf135, t138 := Tryd.underlying137, a138 := Tryd.isAgg137, z138 := Tryd.sizeOf137, v138 := Tryd.zeroValue137, t139 := Tryd.underlying138, a139 := Tryd.isAgg138, z139 := Tryd.sizeOf138, v139 := Tryd.zeroValue138, g3 := by kernel_rfl, g4 := by kernel_rfl }
theorem t12_slow : S_dec (C12 (F12 n_unicode_utf8_decodeRuneInStringSlow)) := by
  rw [show F12 n_unicode_utf8_decodeRuneInStringSlow = renU12.f 260 by kernel_rfl]
  exact acall_Slow lU12
theorem accept12 : (Go.Proofs.YtkankogmljifiaaDoor.Rows.laid_unicode_utf8_acceptRanges : DataW Unit) = acceptData := by kernel_rfl
set_option maxRecDepth 100000 in
theorem inv12 {W : World} (h3 : VarReads Tryd.prog W "unicode/utf8.first" Go.Proofs.YtkankogmljifiaaDoor.Rows.laid_unicode_utf8_first) (h4 : VarReads Tryd.prog W "unicode/utf8.acceptRanges" Go.Proofs.YtkankogmljifiaaDoor.Rows.laid_unicode_utf8_acceptRanges) : I12.on W (fun _ => none) := by
  have e3 : (Go.Proofs.YtkankogmljifiaaDoor.Rows.laid_unicode_utf8_first : DataW Unit) = firstData := by kernel_rfl
  rw [e3] at h3
  rw [accept12] at h4
  have h := utf8Tabs_of_reads (ρ := renU12) lU12 ⟨by kernel_rfl, by kernel_rfl, by kernel_rfl, by kernel_rfl, by kernel_rfl, by kernel_rfl, by kernel_rfl⟩ h3 h4
  exact ⟨h, ⟨rfl, block_lt_of_cell (h.1 0 (by omega))⟩, rfl, block_lt_of_cell (h.2 0 (by omega)).1⟩
end Go.AR
