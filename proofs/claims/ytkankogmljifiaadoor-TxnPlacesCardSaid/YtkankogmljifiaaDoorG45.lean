import Derived.Test.YtkankogmljifiaaDoorG42
import Derived.Test.YtkankogmljifiaaDoorG44
set_option linter.all false
/-! Chapter 12's laws, called. -/
namespace Go.AR
open Go Go.Proofs
theorem call_TxnTells : ∀ ps, HasArgs [tSh, tSh] ps → C12 (F12 n_plaw12_TxnTells) (ps.map .v) (.val (.bool true)) [] := by
  intro ps hps
  obtain ⟨c1, p1, h1, rfl, k1⟩ := args_cons hps
  obtain ⟨c2, p2, h2, rfl, k2⟩ := args_cons k1
  obtain rfl := args_nil k2
  obtain ⟨a, rfl⟩ := has_tx h1
  obtain ⟨b, rfl⟩ := has_tx h2
  exact t12_TxnTells a b
theorem call_TxnPlaces : ∀ ps, HasArgs [.sl tSh, tSh] ps → C12 (F12 n_plaw12_TxnPlaces) (ps.map .v) (.val (.bool true)) [] := by
  intro ps hps
  obtain ⟨c1, p1, h1, rfl, k1⟩ := args_cons hps
  obtain ⟨c2, p2, h2, rfl, k2⟩ := args_cons k1
  obtain rfl := args_nil k2
  obtain ⟨l, rfl⟩ := has_txs h1
  obtain ⟨x, rfl⟩ := has_tx h2
  exact t12_TxnPlaces l x
theorem call_TxnOrder : ∀ ps, HasArgs [.sl tSh] ps → C12 (F12 n_plaw12_TxnOrder) (ps.map .v) (.val (.bool true)) [] := by
  intro ps hps
  obtain ⟨c1, p1, h1, rfl, k1⟩ := args_cons hps
  obtain rfl := args_nil k1
  obtain ⟨l, rfl⟩ := has_txs h1
  exact t12_TxnOrder l
end Go.AR
