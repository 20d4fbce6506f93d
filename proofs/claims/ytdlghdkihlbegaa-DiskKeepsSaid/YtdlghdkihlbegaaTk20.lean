import Derived.Test.YtdlghdkihlbegaaP20
import Derived.Test.YtdlghdkihlbegaaT20
set_option linter.all false
namespace Go.AR
open Go Go.Proofs
theorem call_DiskKeeps : ∀ ps, HasArgs [.sl (.struct [.int .i64, .int .i64, .str])] ps → ACall Try.prog 3 (ps.map .v) (.val (.bool true)) [] := by
  intro ps hps
  obtain ⟨l, hl, rfl⟩ := args_deeds hps
  exact a20_plaw20_DiskKeeps (g_DiskKeeps t20_awake t20_new t20_app t20_sync t20_crash t20_kept t20_waits l hl)
end Go.AR
