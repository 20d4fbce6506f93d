import Derived.Test.YtpmagnceeobcbaaFun
import Derived.Test.YtpmagnceeobcbaaNames
import Derived.Test.YtpmagnceeobcbaaChecked
import Derived.KernelRfl
set_option linter.all false
/-! The seat: which function is which. Printed by program. -/
namespace Go.AR
open Go Go.Proofs
def F05 : Nat → FuncId := fun i => (get [(0, 3), (1, 6), (2, 7), (3, 8), (4, 9), (5, 4), (6, 10), (7, 5), (8, 11), (9, 12), (10, 13), (11, 14), (12, 15), (13, 16), (14, 17), (15, 18), (16, 19), (17, 20), (18, 21), (19, 22), (20, 23), (21, 24), (22, 26), (23, 0), (24, 1), (25, 2), (42, 32), (43, 33), (44, 34), (45, 35), (46, 36), (47, 37), (48, 38), (49, 39), (50, 40), (51, 41), (52, 42), (53, 43), (54, 44), (55, 45), (56, 46), (57, 48), (93, 25), (94, 27), (109, 5), (110, 42), (111, 28), (112, 29), (114, 30), (115, 47)] i).getD 0
abbrev C05 : CallRel := ACall Try.prog
theorem mix05 : Try.prog.follows .mixedOrders = true := by kernel_rfl
end Go.AR
