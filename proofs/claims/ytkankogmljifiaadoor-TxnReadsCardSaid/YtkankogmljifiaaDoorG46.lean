import Derived.Test.YtkankogmljifiaaDoorG45
import Derived.Test.YtkankogmljifiaaDoorG33
set_option linter.all false
/-! What operations are, as shapes. -/
namespace Go.AR
open Go
theorem has_int {k : IntKind} {cs : List PV} (h : (Sh.int k).has cs) : ∃ n : Int, cs = [.int k n] := by
  obtain ⟨n, rfl, _⟩ := h
  exact ⟨n, rfl⟩
end Go.AR
