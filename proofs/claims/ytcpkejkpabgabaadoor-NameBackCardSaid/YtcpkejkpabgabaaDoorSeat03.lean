import Derived.Test.YtcpkejkpabgabaaDoorDec
import Derived.Test.YtcpkejkpabgabaaDoorNames
import Derived.Test.YtcpkejkpabgabaaDoorChecked
import Derived.KernelRfl
set_option linter.all false
/-! The seat: which function is which. Printed by program. -/
namespace Go.AR
open Go Go.Proofs
def F03 : Nat → FuncId := fun i => (get [(23, 0), (24, 1), (25, 2), (42, 28), (43, 29), (44, 30), (45, 31), (46, 32), (47, 33), (48, 34), (49, 35), (50, 36), (51, 37), (52, 38), (53, 39), (54, 40), (55, 41), (56, 42), (57, 44), (109, 5), (110, 39), (111, 19), (112, 20), (114, 25), (115, 43), (124, 12), (175, 3), (176, 7), (177, 8), (178, 9), (179, 10), (180, 11), (181, 4), (182, 5), (183, 13), (184, 14), (185, 15), (186, 16), (187, 17), (188, 18), (189, 6), (190, 21), (191, 23), (192, 22), (193, 24), (194, 26)] i).getD 0
def I03 : Inv := utfInv 0 1
abbrev C03 : CallRel := ACallI I03 Tryd.prog
theorem mix03 : Tryd.prog.follows .mixedOrders = true := by kernel_rfl
end Go.AR
