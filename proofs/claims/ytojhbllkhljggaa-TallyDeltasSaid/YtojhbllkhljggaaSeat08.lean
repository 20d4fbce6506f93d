import Derived.Test.YtojhbllkhljggaaFun
import Derived.Test.YtojhbllkhljggaaNames
import Derived.Test.YtojhbllkhljggaaChecked
import Derived.KernelRfl
set_option linter.all false
/-! The seat: which function is which. Printed by program. -/
namespace Go.AR
open Go Go.Proofs
def F08 : Nat → FuncId := fun i => (get [(21, 27), (23, 0), (24, 1), (25, 2), (42, 45), (43, 46), (44, 47), (45, 48), (46, 49), (47, 50), (48, 51), (49, 52), (50, 53), (51, 54), (52, 55), (53, 56), (54, 57), (55, 58), (56, 59), (57, 60), (93, 9), (109, 5), (135, 3), (136, 8), (137, 10), (138, 11), (139, 12), (140, 13), (141, 14), (142, 4), (143, 15), (144, 16), (145, 17), (146, 18), (147, 19), (148, 21), (149, 20), (150, 5), (151, 22), (152, 23), (153, 6), (154, 24), (155, 25), (156, 26), (157, 7), (158, 28), (159, 30), (160, 29), (161, 31), (162, 32), (163, 33), (164, 34), (165, 35), (166, 38), (167, 39), (168, 36), (169, 37), (170, 40), (171, 42), (172, 41), (173, 43), (174, 44)] i).getD 0
abbrev C08 : CallRel := ACall Try.prog
theorem mix08 : Try.prog.follows .mixedOrders = true := by kernel_rfl
end Go.AR
