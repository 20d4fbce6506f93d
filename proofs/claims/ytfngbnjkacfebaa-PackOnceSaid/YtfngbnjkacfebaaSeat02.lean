import Derived.Test.YtfngbnjkacfebaaFun
import Derived.Test.YtfngbnjkacfebaaNames
import Derived.Test.YtfngbnjkacfebaaChecked
import Derived.KernelRfl
set_option linter.all false
/-! The seat: which function is which. Printed by program. -/
namespace Go.AR
open Go Go.Proofs
def F02 : Nat → FuncId := fun i => (get [(22, 7), (23, 0), (24, 1), (25, 2), (42, 24), (43, 25), (44, 26), (45, 27), (46, 28), (47, 29), (48, 30), (49, 31), (50, 32), (51, 33), (52, 34), (53, 35), (54, 36), (55, 37), (56, 38), (57, 40), (94, 8), (95, 3), (96, 6), (97, 9), (98, 10), (99, 4), (100, 11), (101, 12), (102, 13), (103, 14), (104, 15), (105, 16), (106, 5), (107, 17), (108, 18), (109, 5), (110, 39), (111, 19), (112, 20), (113, 21), (114, 22), (115, 39)] i).getD 0
abbrev C02 : CallRel := ACall Try.prog
theorem mix02 : Try.prog.follows .mixedOrders = true := by kernel_rfl
end Go.AR
