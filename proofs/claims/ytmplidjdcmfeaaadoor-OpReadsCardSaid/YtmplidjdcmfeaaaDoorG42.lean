import Derived.Test.YtmplidjdcmfeaaaDoorG26
import Derived.Test.YtmplidjdcmfeaaaDoorG40
import Derived.Lib.LaidU8
import Derived.Test.YtmplidjdcmfeaaaDoorRows
set_option linter.all false
/-! Go's tables of characters at the seat. Printed by program. -/
namespace Go.AR
open Go Go.Proofs Go.Shelf Go.Lib
def renU11 : Ren := { f := fun | 260 => 96 | n => n, t := fun | 0 => 0 | 3 => 3 | 4 => 4 | 5 => 5 | 9 => 9 | 21 => 21 | 46 => 80 | 105 => 104 | 119 => 108 | 138 => 110 | 139 => 111 | n => n, g := fun | 3 => 0 | 4 => 1 | n => n }
theorem lU11 : Lays.n260 Tryd.prog renU11 := { mixed := mix11, f260 := by kernel_rfl, t0 := Tryd.underlying0, a0 := Tryd.isAgg0, z0 := Tryd.sizeOf0, v0 := Tryd.zeroValue0, t3 := Tryd.underlying3, a3 := Tryd.isAgg3, z3 := Tryd.sizeOf3, v3 := Tryd.zeroValue3, t4 := Tryd.underlying4, a4 := Tryd.isAgg4, z4 := Tryd.sizeOf4, v4 := Tryd.zeroValue4, t5 := Tryd.underlying5, a5 := Tryd.isAgg5, z5 := Tryd.sizeOf5, v5 := Tryd.zeroValue5, t9 := Tryd.underlying9, a9 := Tryd.isAgg9, z9 := Tryd.sizeOf9, v9 := Tryd.zeroValue9, t21 := Tryd.underlying21, a21 := Tryd.isAgg21, z21 := Tryd.sizeOf21, v21 := Tryd.zeroValue21, t46 := Tryd.underlying80, a46 := Tryd.isAgg80, z46 := Tryd.sizeOf80, v46 := Tryd.zeroValue80, t119 := Tryd.underlying108, a119 := Tryd.isAgg108, z119 := Tryd.sizeOf108, t138 := Tryd.underlying110, a138 := Tryd.isAgg110, z138 := Tryd.sizeOf110, v138 := Tryd.zeroValue110, t139 := Tryd.underlying111, a139 := Tryd.isAgg111, z139 := Tryd.sizeOf111, v139 := Tryd.zeroValue111, g3 := by kernel_rfl, g4 := by kernel_rfl }
theorem t11_slow : S_dec (C11 (F11 n_unicode_utf8_decodeRuneInStringSlow)) := by
  rw [show F11 n_unicode_utf8_decodeRuneInStringSlow = renU11.f 260 by kernel_rfl]
  exact acall_Slow lU11
theorem accept11 : (Go.Proofs.YtmplidjdcmfeaaaDoor.Rows.laid_unicode_utf8_acceptRanges : DataW Unit) = acceptData := by kernel_rfl
set_option maxRecDepth 100000 in
theorem inv11 {W : World} (h3 : VarReads Tryd.prog W "unicode/utf8.first" Go.Proofs.YtmplidjdcmfeaaaDoor.Rows.laid_unicode_utf8_first) (h4 : VarReads Tryd.prog W "unicode/utf8.acceptRanges" Go.Proofs.YtmplidjdcmfeaaaDoor.Rows.laid_unicode_utf8_acceptRanges) : I11.on W (fun _ => none) := by
  have e3 : (Go.Proofs.YtmplidjdcmfeaaaDoor.Rows.laid_unicode_utf8_first : DataW Unit) = firstData := by kernel_rfl
  rw [e3] at h3
  rw [accept11] at h4
  have h := utf8Tabs_of_reads (ρ := renU11) lU11 ⟨by kernel_rfl, by kernel_rfl, by kernel_rfl, by kernel_rfl, by kernel_rfl, by kernel_rfl, by kernel_rfl⟩ h3 h4
  exact ⟨h, ⟨rfl, block_lt_of_cell (h.1 0 (by omega))⟩, rfl, block_lt_of_cell (h.2 0 (by omega)).1⟩
end Go.AR
