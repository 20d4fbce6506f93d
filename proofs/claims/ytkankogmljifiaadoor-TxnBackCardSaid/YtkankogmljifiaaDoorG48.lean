import Derived.Test.YtkankogmljifiaaDoorG45
import Derived.Test.YtkankogmljifiaaDoorG47
set_option linter.all false
/-! Chapter 12's laws, called. -/
namespace Go.AR
open Go Go.Proofs
theorem call_TxnBack : ∀ ps, HasArgs [.sl tSh] ps → C12 (F12 n_plaw12_TxnBack) (ps.map .v) (.val (.bool true)) [] := by
  intro ps hps
  obtain ⟨c1, p1, h1, rfl, k1⟩ := args_cons hps
  obtain rfl := args_nil k1
  obtain ⟨l, rfl⟩ := has_txs h1
  exact t12_TxnBack l
end Go.AR
