import Derived.Test.YteombjhaanohiaaP07s
import Derived.Test.YteombjhaanohiaaT07
set_option linter.all false
namespace Go.AR
open Go Go.Proofs
theorem call_MatrixStable : ∀ ps, HasArgs [.arr 16 (.arr 16 (.int .i64)), .int .i64, .struct [.int .i64, .int .i64]] ps → ACall Try.prog 4 (ps.map .v) (.val (.bool true)) [] := by
  intro ps hps
  obtain ⟨c1, p1, h1, rfl, k1⟩ := args_cons hps
  obtain ⟨c2, p2, ⟨n, rfl, _⟩, rfl, k2⟩ := args_cons k1
  obtain ⟨c3, p3, h3, rfl, k3⟩ := args_cons k2
  obtain rfl := args_nil k3
  obtain ⟨m, hm, rfl⟩ := hasN_rows 16 c1 h1
  obtain ⟨_, _, rfl, ⟨r, rfl, _⟩, _, _, rfl, ⟨k, rfl, _⟩, rfl⟩ := h3
  exact a07_plaw07_MatrixStable (g_MatrixStable t7_awake t7_rHas t7_Stable m n r k hm)
end Go.AR
