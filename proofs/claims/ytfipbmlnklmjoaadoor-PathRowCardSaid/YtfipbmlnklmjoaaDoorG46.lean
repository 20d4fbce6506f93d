import Derived.Test.YtfipbmlnklmjoaaDoorG44
import Derived.Test.YtfipbmlnklmjoaaDoorG45
set_option linter.all false
/-! Chapter 10's laws, called. -/
namespace Go.AR
open Go Go.Proofs
theorem call_PathParses : ∀ ps, HasArgs [.str] ps → C10 (F10 n_plaw10_PathParses) (ps.map .v) (.val (.bool true)) [] := by
  intro ps hps
  obtain ⟨c1, p1, h1, rfl, k1⟩ := args_cons hps
  obtain rfl := args_nil k1
  obtain ⟨s, rfl⟩ := has_text h1
  exact t10_PathParses s
theorem call_PathReads : ∀ ps, HasArgs [.str] ps → C10 (F10 n_plaw10_PathReads) (ps.map .v) (.val (.bool true)) [] := by
  intro ps hps
  obtain ⟨c1, p1, h1, rfl, k1⟩ := args_cons hps
  obtain rfl := args_nil k1
  obtain ⟨s, rfl⟩ := has_text h1
  exact t10_PathReads s
theorem call_PathTells : ∀ ps, HasArgs [.sl .str, .sl .str] ps → C10 (F10 n_plaw10_PathTells) (ps.map .v) (.val (.bool true)) [] := by
  intro ps hps
  obtain ⟨c1, p1, h1, rfl, k1⟩ := args_cons hps
  obtain ⟨c2, p2, h2, rfl, k2⟩ := args_cons k1
  obtain rfl := args_nil k2
  obtain ⟨a, rfl⟩ := has_texts h1
  obtain ⟨b, rfl⟩ := has_texts h2
  exact t10_PathTells a b
theorem call_PathRow : ∀ ps, HasArgs [.sl .str, .sl .str, .sl .str] ps → C10 (F10 n_plaw10_PathRow) (ps.map .v) (.val (.bool true)) [] := by
  intro ps hps
  obtain ⟨c1, p1, h1, rfl, k1⟩ := args_cons hps
  obtain ⟨c2, p2, h2, rfl, k2⟩ := args_cons k1
  obtain ⟨c3, p3, h3, rfl, k3⟩ := args_cons k2
  obtain rfl := args_nil k3
  obtain ⟨a, rfl⟩ := has_texts h1
  obtain ⟨b, rfl⟩ := has_texts h2
  obtain ⟨c, rfl⟩ := has_texts h3
  exact t10_PathRow a b c
end Go.AR
