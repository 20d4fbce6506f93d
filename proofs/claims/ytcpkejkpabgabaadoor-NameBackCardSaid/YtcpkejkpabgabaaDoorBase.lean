import Derived.Test.YtcpkejkpabgabaaDoorWalk3
set_option linter.all false
/-! What contracts are. -/
namespace Go.AR
abbrev Rel := List Arg → RV → List Blk → Prop
def S_yes (R : Rel) : Prop := R [] (.val (.bool true)) []
end Go.AR
