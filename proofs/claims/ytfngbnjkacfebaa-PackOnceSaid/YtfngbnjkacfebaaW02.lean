import Derived.Test.YtfngbnjkacfebaaT02
import Derived.Test.YtfngbnjkacfebaaShapes
set_option linter.all false
/-! Chapter 2's laws, called. -/
namespace Go.AR
open Go Go.Proofs
theorem wf_i64 {n : Int} (h : (Lit.int .i64 n).wf = true) : i64ok n := by
  simp [Lit.wf, IntKind.min, IntKind.max, IntKind.signed, IntKind.bits] at h
  unfold i64ok; omega
theorem call_PackTells : ∀ ps, HasArgs [.int .i64, .str] ps → ACall Try.prog 3 (ps.map .v) (.val (.bool true)) [] := by
  intro ps hps
  obtain ⟨c1, p1, ⟨n, rfl, hn⟩, rfl, k1⟩ := args_cons hps
  obtain ⟨c2, p2, ⟨s, rfl, hs⟩, rfl, k2⟩ := args_cons k1
  obtain rfl := args_nil k2
  exact t02_PackTells n s (wf_i64 hn)
theorem call_PackBack : ∀ ps, HasArgs [.int .i64, .str, .str] ps → ACall Try.prog 4 (ps.map .v) (.val (.bool true)) [] := by
  intro ps hps
  obtain ⟨c1, p1, ⟨n, rfl, hn⟩, rfl, k1⟩ := args_cons hps
  obtain ⟨c2, p2, ⟨s, rfl, hs⟩, rfl, k2⟩ := args_cons k1
  obtain ⟨c3, p3, ⟨t, rfl, ht⟩, rfl, k3⟩ := args_cons k2
  obtain rfl := args_nil k3
  exact t02_PackBack n s t
theorem call_PackOnce : ∀ ps, HasArgs [.str] ps → ACall Try.prog 5 (ps.map .v) (.val (.bool true)) [] := by
  intro ps hps
  obtain ⟨c1, p1, ⟨s, rfl, hs⟩, rfl, k1⟩ := args_cons hps
  obtain rfl := args_nil k1
  exact t02_PackOnce s
end Go.AR
