import Derived.Test.YtfipbmlnklmjoaaDoorG27
import Derived.Test.YtfipbmlnklmjoaaDoorG40
import Derived.Lib.LaidU8
import Derived.Test.YtfipbmlnklmjoaaDoorRows
set_option linter.all false
/-! Go's tables of characters at the seat. Printed by program. -/
namespace Go.AR
open Go Go.Proofs Go.Shelf Go.Lib
def renU10 : Ren := { f := fun | 260 => 72 | n => n, t := fun | 0 => 0 | 3 => 3 | 4 => 4 | 5 => 5 | 9 => 9 | 21 => 21 | 46 => 78 | 105 => 79 | 119 => 87 | 138 => 89 | 139 => 90 | n => n, g := fun | 3 => 0 | 4 => 1 | n => n }
theorem lU10 : Lays.n260 Tryd.prog renU10 := { mixed := mix10, f260 := by kernel_rfl, t0 := Tryd.underlying0, a0 := Tryd.isAgg0, z0 := Tryd.sizeOf0, v0 := Tryd.zeroValue0, t3 := Tryd.underlying3, a3 := Tryd.isAgg3, z3 := Tryd.sizeOf3, v3 := Tryd.zeroValue3, t4 := Tryd.underlying4, a4 := Tryd.isAgg4, z4 := Tryd.sizeOf4, v4 := Tryd.zeroValue4, t5 := Tryd.underlying5, a5 := Tryd.isAgg5, z5 := Tryd.sizeOf5, v5 := Tryd.zeroValue5, t9 := Tryd.underlying9, a9 := Tryd.isAgg9, z9 := Tryd.sizeOf9, v9 := Tryd.zeroValue9, t21 := Tryd.underlying21, a21 := Tryd.isAgg21, z21 := Tryd.sizeOf21, v21 := Tryd.zeroValue21, t46 := Tryd.underlying78, a46 := Tryd.isAgg78, z46 := Tryd.sizeOf78, v46 := Tryd.zeroValue78, t119 := Tryd.underlying87, a119 := Tryd.isAgg87, z119 := Tryd.sizeOf87, t138 := Tryd.underlying89, a138 := Tryd.isAgg89, z138 := Tryd.sizeOf89, v138 := Tryd.zeroValue89, t139 := Tryd.underlying90, a139 := Tryd.isAgg90, z139 := Tryd.sizeOf90, v139 := Tryd.zeroValue90, g3 := by kernel_rfl, g4 := by kernel_rfl }
theorem t10_slow : S_dec (C10 (F10 n_unicode_utf8_decodeRuneInStringSlow)) := by
  rw [show F10 n_unicode_utf8_decodeRuneInStringSlow = renU10.f 260 by kernel_rfl]
  exact acall_Slow lU10
theorem accept10 : (Go.Proofs.YtfipbmlnklmjoaaDoor.Rows.laid_unicode_utf8_acceptRanges : DataW Unit) = acceptData := by kernel_rfl
set_option maxRecDepth 100000 in
theorem inv10 {W : World} (h3 : VarReads Tryd.prog W "unicode/utf8.first" Go.Proofs.YtfipbmlnklmjoaaDoor.Rows.laid_unicode_utf8_first) (h4 : VarReads Tryd.prog W "unicode/utf8.acceptRanges" Go.Proofs.YtfipbmlnklmjoaaDoor.Rows.laid_unicode_utf8_acceptRanges) : I10.on W (fun _ => none) := by
  have e3 : (Go.Proofs.YtfipbmlnklmjoaaDoor.Rows.laid_unicode_utf8_first : DataW Unit) = firstData := by kernel_rfl
  rw [e3] at h3
  rw [accept10] at h4
  have h := utf8Tabs_of_reads (ρ := renU10) lU10 ⟨by kernel_rfl, by kernel_rfl, by kernel_rfl, by kernel_rfl, by kernel_rfl, by kernel_rfl, by kernel_rfl⟩ h3 h4
  exact ⟨h, ⟨rfl, block_lt_of_cell (h.1 0 (by omega))⟩, rfl, block_lt_of_cell (h.2 0 (by omega)).1⟩
end Go.AR
