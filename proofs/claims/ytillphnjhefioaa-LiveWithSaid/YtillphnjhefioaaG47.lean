import Derived.Test.YtillphnjhefioaaG44
import Derived.Test.YtillphnjhefioaaG46
set_option linter.all false
/-! Chapter 13's laws, called. -/
namespace Go.AR
open Go Go.Proofs
theorem call_LiveTells : ∀ ps, HasArgs [.sl tSh, .sl rSh, .sl .str, .int .i64] ps → C13 (F13 n_plaw13_LiveTells) (ps.map .v) (.val (.bool true)) [] := by
  intro ps hps
  obtain ⟨c1, p1, h1, rfl, k1⟩ := args_cons hps
  obtain ⟨c2, p2, h2, rfl, k2⟩ := args_cons k1
  obtain ⟨c3, p3, h3, rfl, k3⟩ := args_cons k2
  obtain ⟨c4, p4, h4, rfl, k4⟩ := args_cons k3
  obtain rfl := args_nil k4
  obtain ⟨l, rfl⟩ := has_txs h1
  obtain ⟨u, rfl⟩ := has_refs h2
  obtain ⟨p, rfl⟩ := has_texts h3
  obtain ⟨k, rfl⟩ := has_int h4
  exact t13_LiveTells l u p k
theorem call_LiveUndone : ∀ ps, HasArgs [.sl tSh, .sl rSh, dSh] ps → C13 (F13 n_plaw13_LiveUndone) (ps.map .v) (.val (.bool true)) [] := by
  intro ps hps
  obtain ⟨c1, p1, h1, rfl, k1⟩ := args_cons hps
  obtain ⟨c2, p2, h2, rfl, k2⟩ := args_cons k1
  obtain ⟨c3, p3, h3, rfl, k3⟩ := args_cons k2
  obtain rfl := args_nil k3
  obtain ⟨l, rfl⟩ := has_txs h1
  obtain ⟨u, rfl⟩ := has_refs h2
  obtain ⟨d, rfl⟩ := has_dt h3
  exact t13_LiveUndone l u d
theorem call_LiveTwice : ∀ ps, HasArgs [.sl tSh, .sl rSh, dSh] ps → C13 (F13 n_plaw13_LiveTwice) (ps.map .v) (.val (.bool true)) [] := by
  intro ps hps
  obtain ⟨c1, p1, h1, rfl, k1⟩ := args_cons hps
  obtain ⟨c2, p2, h2, rfl, k2⟩ := args_cons k1
  obtain ⟨c3, p3, h3, rfl, k3⟩ := args_cons k2
  obtain rfl := args_nil k3
  obtain ⟨l, rfl⟩ := has_txs h1
  obtain ⟨u, rfl⟩ := has_refs h2
  obtain ⟨d, rfl⟩ := has_dt h3
  exact t13_LiveTwice l u d
theorem call_LiveAgain : ∀ ps, HasArgs [.sl tSh, .sl rSh, dSh] ps → C13 (F13 n_plaw13_LiveAgain) (ps.map .v) (.val (.bool true)) [] := by
  intro ps hps
  obtain ⟨c1, p1, h1, rfl, k1⟩ := args_cons hps
  obtain ⟨c2, p2, h2, rfl, k2⟩ := args_cons k1
  obtain ⟨c3, p3, h3, rfl, k3⟩ := args_cons k2
  obtain rfl := args_nil k3
  obtain ⟨l, rfl⟩ := has_txs h1
  obtain ⟨u, rfl⟩ := has_refs h2
  obtain ⟨d, rfl⟩ := has_dt h3
  exact t13_LiveAgain l u d
theorem call_LiveWith : ∀ ps, HasArgs [.sl tSh, .sl rSh, tSh] ps → C13 (F13 n_plaw13_LiveWith) (ps.map .v) (.val (.bool true)) [] := by
  intro ps hps
  obtain ⟨c1, p1, h1, rfl, k1⟩ := args_cons hps
  obtain ⟨c2, p2, h2, rfl, k2⟩ := args_cons k1
  obtain ⟨c3, p3, h3, rfl, k3⟩ := args_cons k2
  obtain rfl := args_nil k3
  obtain ⟨l, rfl⟩ := has_txs h1
  obtain ⟨u, rfl⟩ := has_refs h2
  obtain ⟨t, rfl⟩ := has_tx h3
  exact t13_LiveWith l u t
end Go.AR
