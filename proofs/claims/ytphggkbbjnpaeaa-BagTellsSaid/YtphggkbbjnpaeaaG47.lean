import Derived.Test.YtphggkbbjnpaeaaG44
import Derived.Test.YtphggkbbjnpaeaaG46
set_option linter.all false
/-! Chapter 15's law, called. -/
namespace Go.AR
open Go Go.Proofs
theorem call_BagTells : ∀ ps, HasArgs [.sl tSh, .sl rSh, .sl .str, vSh] ps → C15 (F15 n_plaw15_BagTells) (ps.map .v) (.val (.bool true)) [] := by
  intro ps hps
  obtain ⟨c1, p1, h1, rfl, k1⟩ := args_cons hps
  obtain ⟨c2, p2, h2, rfl, k2⟩ := args_cons k1
  obtain ⟨c3, p3, h3, rfl, k3⟩ := args_cons k2
  obtain ⟨c4, p4, h4, rfl, k4⟩ := args_cons k3
  obtain rfl := args_nil k4
  obtain ⟨l, rfl⟩ := has_txs h1
  obtain ⟨u, rfl⟩ := has_refs h2
  obtain ⟨p, rfl⟩ := has_texts h3
  obtain ⟨v, rfl⟩ := has_vl h4
  exact t15_BagTells l u p v
end Go.AR
