import Derived.Test.YteombjhaanohiaaFun
import Derived.Test.YteombjhaanohiaaNames
import Derived.Test.YteombjhaanohiaaChecked
import Derived.KernelRfl
set_option linter.all false
/-! The seat: which function is which. Printed by program. -/
namespace Go.AR
open Go Go.Proofs
def F07 : Nat → FuncId := fun i => (get [(1, 22), (2, 23), (6, 24), (9, 26), (10, 12), (11, 20), (13, 8), (16, 27), (18, 28), (19, 29), (20, 30), (21, 31), (23, 0), (24, 1), (25, 2), (42, 32), (43, 33), (44, 34), (45, 35), (46, 36), (47, 37), (48, 38), (49, 39), (50, 40), (51, 41), (52, 42), (53, 43), (54, 44), (55, 45), (56, 46), (57, 47), (77, 3), (78, 7), (79, 9), (80, 10), (81, 11), (82, 4), (83, 5), (84, 13), (85, 14), (86, 15), (87, 16), (88, 17), (89, 18), (90, 6), (91, 19), (92, 21), (93, 25), (109, 5)] i).getD 0
abbrev C07 : CallRel := ACall Try.prog
theorem mix07 : Try.prog.follows .mixedOrders = true := by kernel_rfl
end Go.AR
