import Derived.Test.YtmhhpifepghbbaaG38
import Derived.Test.YtmhhpifepghbbaaG40
set_option linter.all false
/-! Chapter 16's law, called. -/
namespace Go.AR
open Go Go.Proofs
theorem call_TotalTells : ∀ ps, HasArgs [.sl tSh, .sl rSh, .sl .str] ps → C16 (F16 n_plaw16_TotalTells) (ps.map .v) (.val (.bool true)) [] := by
  intro ps hps
  obtain ⟨c1, p1, h1, rfl, k1⟩ := args_cons hps
  obtain ⟨c2, p2, h2, rfl, k2⟩ := args_cons k1
  obtain ⟨c3, p3, h3, rfl, k3⟩ := args_cons k2
  obtain rfl := args_nil k3
  obtain ⟨l, rfl⟩ := has_txs h1
  obtain ⟨u, rfl⟩ := has_refs h2
  obtain ⟨p, rfl⟩ := has_texts h3
  exact t16_TotalTells l u p
end Go.AR
