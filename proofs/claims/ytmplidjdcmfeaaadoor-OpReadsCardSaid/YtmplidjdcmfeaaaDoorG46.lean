import Derived.Test.YtmplidjdcmfeaaaDoorG43
import Derived.Test.YtmplidjdcmfeaaaDoorG45
set_option linter.all false
/-! Chapter 11's laws, called. -/
namespace Go.AR
open Go Go.Proofs
theorem call_OpBack : ∀ ps, HasArgs [oSh] ps → C11 (F11 n_plaw11_OpBack) (ps.map .v) (.val (.bool true)) [] := by
  intro ps hps
  obtain ⟨c1, p1, h1, rfl, k1⟩ := args_cons hps
  obtain rfl := args_nil k1
  obtain ⟨o, rfl⟩ := has_op h1
  exact t11_OpBack o
theorem call_OpNames : ∀ ps, HasArgs [oSh, rSh] ps → C11 (F11 n_plaw11_OpNames) (ps.map .v) (.val (.bool true)) [] := by
  intro ps hps
  obtain ⟨c1, p1, h1, rfl, k1⟩ := args_cons hps
  obtain ⟨c2, p2, h2, rfl, k2⟩ := args_cons k1
  obtain rfl := args_nil k2
  obtain ⟨o, rfl⟩ := has_op h1
  obtain ⟨r, rfl⟩ := has_ref h2
  exact t11_OpNames o r
theorem call_OpTells : ∀ ps, HasArgs [oSh, oSh, rSh, .int .i64] ps → C11 (F11 n_plaw11_OpTells) (ps.map .v) (.val (.bool true)) [] := by
  intro ps hps
  obtain ⟨c1, p1, h1, rfl, k1⟩ := args_cons hps
  obtain ⟨c2, p2, h2, rfl, k2⟩ := args_cons k1
  obtain ⟨c3, p3, h3, rfl, k3⟩ := args_cons k2
  obtain ⟨c4, p4, h4, rfl, k4⟩ := args_cons k3
  obtain rfl := args_nil k4
  obtain ⟨o, rfl⟩ := has_op h1
  obtain ⟨b, rfl⟩ := has_op h2
  obtain ⟨r, rfl⟩ := has_ref h3
  obtain ⟨k, rfl⟩ := has_int h4
  exact t11_OpTells o b r k
theorem call_OpReads : ∀ ps, HasArgs [.str] ps → C11 (F11 n_plaw11_OpReads) (ps.map .v) (.val (.bool true)) [] := by
  intro ps hps
  obtain ⟨c1, p1, h1, rfl, k1⟩ := args_cons hps
  obtain rfl := args_nil k1
  obtain ⟨s, rfl⟩ := has_text h1
  exact t11_OpReads s
end Go.AR
