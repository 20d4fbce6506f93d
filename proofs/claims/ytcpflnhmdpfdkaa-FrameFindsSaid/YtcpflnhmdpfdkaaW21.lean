import Derived.Test.YtcpflnhmdpfdkaaT21
import Derived.Test.YtcpflnhmdpfdkaaArgs
set_option linter.all false
/-! Chapter 21's laws, called. -/
namespace Go.AR
open Go Go.Proofs
theorem call_FrameTells : ∀ ps, HasArgs [.str, .str] ps → ACall Try.prog (F21 n_plaw21_FrameTells) (ps.map .v) (.val (.bool true)) [] := by
  intro ps hps
  obtain ⟨c1, p1, ⟨s, rfl, _⟩, rfl, k1⟩ := args_cons hps
  obtain ⟨c2, p2, ⟨t, rfl, _⟩, rfl, k2⟩ := args_cons k1
  obtain rfl := args_nil k2
  exact t21_FrameTells s t
theorem call_FrameBack : ∀ ps, HasArgs [.sl .str] ps → ACall Try.prog (F21 n_plaw21_FrameBack) (ps.map .v) (.val (.bool true)) [] := by
  intro ps hps
  obtain ⟨c1, p1, h1, rfl, k1⟩ := args_cons hps
  obtain rfl := args_nil k1
  obtain ⟨l, rfl, hl, _⟩ := has_texts h1
  exact t21_FrameBack l hl
theorem call_FrameTorn : ∀ ps, HasArgs [.sl .str, .int .i64] ps → ACall Try.prog (F21 n_plaw21_FrameTorn) (ps.map .v) (.val (.bool true)) [] := by
  intro ps hps
  obtain ⟨c1, p1, h1, rfl, k1⟩ := args_cons hps
  obtain ⟨c2, p2, ⟨n, rfl, _⟩, rfl, k2⟩ := args_cons k1
  obtain rfl := args_nil k2
  obtain ⟨l, rfl, hl, _⟩ := has_texts h1
  exact t21_FrameTorn l n hl
theorem call_FrameFinds : ∀ ps, HasArgs [.sl .str, .str, .int .i64, .int .u8] ps → ACall Try.prog (F21 n_plaw21_FrameFinds) (ps.map .v) (.val (.bool true)) [] := by
  intro ps hps
  obtain ⟨c1, p1, h1, rfl, k1⟩ := args_cons hps
  obtain ⟨c2, p2, ⟨s, rfl, _⟩, rfl, k2⟩ := args_cons k1
  obtain ⟨c3, p3, ⟨n, rfl, _⟩, rfl, k3⟩ := args_cons k2
  obtain ⟨c4, p4, ⟨x, rfl, hx⟩, rfl, k4⟩ := args_cons k3
  obtain rfl := args_nil k4
  obtain ⟨l, rfl, hl, _⟩ := has_texts h1
  obtain ⟨y, rfl⟩ := wf_u8 hx
  exact t21_FrameFinds l s n y hl
end Go.AR
