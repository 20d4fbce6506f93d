import Derived.Test.YtkankogmljifiaaDoorG44
import Derived.Test.YtkankogmljifiaaDoorG46
import Derived.Test.YtkankogmljifiaaDoorG38
set_option linter.all false
/-! Chapter 12's laws, called. -/
namespace Go.AR
open Go Go.Proofs
theorem call_TxnReads : ∀ ps, HasArgs [.str, .int .i64] ps → C12 (F12 n_plaw12_TxnReads) (ps.map .v) (.val (.bool true)) [] := by
  intro ps hps
  obtain ⟨c1, p1, h1, rfl, k1⟩ := args_cons hps
  obtain ⟨c2, p2, h2, rfl, k2⟩ := args_cons k1
  obtain rfl := args_nil k2
  obtain ⟨s, rfl⟩ := has_text h1
  obtain ⟨n, rfl⟩ := has_int h2
  exact t12_TxnReads s n
end Go.AR
