import Derived.Test.YtcpflnhmdpfdkaaFun
import Derived.Test.YtcpflnhmdpfdkaaNames
import Derived.Test.YtcpflnhmdpfdkaaChecked
import Derived.KernelRfl
set_option linter.all false
/-! The seat: which function is which. Printed by program. -/
namespace Go.AR
open Go Go.Proofs
def F21 : Nat → FuncId := fun i => (get [(22, 33), (23, 0), (24, 1), (25, 2), (28, 31), (29, 24), (30, 35), (31, 32), (32, 30), (33, 23), (36, 25), (37, 21), (40, 16), (41, 38), (42, 41), (43, 42), (44, 43), (45, 44), (46, 45), (47, 46), (48, 47), (49, 48), (50, 49), (51, 50), (52, 51), (53, 52), (54, 53), (55, 54), (56, 55), (57, 58), (94, 34), (97, 26), (98, 27), (100, 17), (101, 18), (103, 19), (104, 20), (107, 29), (109, 5), (110, 60), (111, 36), (112, 37), (113, 28), (114, 39), (115, 57), (116, 3), (117, 7), (118, 8), (119, 9), (120, 10), (121, 11), (122, 12), (123, 13), (124, 14), (125, 4), (126, 15), (127, 5), (128, 6), (129, 22), (130, 56)] i).getD 0
abbrev C21 : CallRel := ACall Try.prog
theorem mix21 : Try.prog.follows .mixedOrders = true := by kernel_rfl
end Go.AR
