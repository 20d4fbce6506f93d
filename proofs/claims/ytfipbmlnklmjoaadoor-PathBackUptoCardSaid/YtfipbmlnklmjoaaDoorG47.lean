import Derived.Test.YtfipbmlnklmjoaaDoorG44
import Derived.Test.YtfipbmlnklmjoaaDoorG46
set_option linter.all false
/-! Chapter 10's law PathBack, called. -/
namespace Go.AR
open Go Go.Proofs
theorem call_PathBack : ∀ ps, HasArgsB 1048576 [.sl .str] ps → C10 (F10 n_plaw10_PathBack) (ps.map .v) (.val (.bool true)) [] := by
  intro ps hps
  obtain ⟨c1, p1, h1, rfl, k1⟩ := argsB_cons hps
  obtain rfl := argsB_nil k1
  obtain ⟨l, rfl, h2, h3⟩ := hasB_texts h1
  exact t10_PathBack l ⟨by omega, fun s hs => by have := h3 s hs; omega⟩
end Go.AR
