import Derived.Test.YtlhahjlnhkokcaaG02
import Derived.Test.YtlhahjlnhkokcaaG03
set_option linter.all false
/-! Codes, printed by program. -/
namespace Go.AR
def H_pref01_Changed : Hints := [(3, { ops := [], kt := [10, 11, 12], kb := [] }),
 (4, { ops := [], kt := [9, 10, 11, 12, 13, 14, 15, 16, 17, 18, 19, 20, 21, 22, 23, 24, 25, 26, 27, 28], kb := [] }),
 (5, { ops := [], kt := [16, 17, 18], kb := [] }),
 (6, { ops := [], kt := [19, 20], kb := [] }),
 (7, { ops := [], kt := [22, 23, 24], kb := [] }),
 (8, { ops := [(0, { take := true })], kt := [25, 26, 27, 28], kb := [] }),
 (9, { ops := [], kt := [29, 30], kb := [] })]
def c_pref01_Changed (F : Nat → FuncId) : AFun := { nparams := 3, ntmps := 31, results := [.tmp 6], body :=
 (.seq
 (.reg [⟨(some 6), [], [.c (.str [])], [], [], .cp, none⟩] [] [])
 (.seq
 (.reg [⟨(some 7), [], [], [], [], .nils 1, none⟩] [] [])
 (.seq
 (.seq
 (.reg [⟨(some 8), [], [.c (.int .i64 0)], [], [], .cp, none⟩] [] [])
 (.block 0
 (.loop
 (.seq
 (.seq
 (.reg [⟨(some 10), [], [.t 8], [], [], .cp, none⟩,
 ⟨(some 11), [], [.t 0], [], [], .cp, none⟩,
 ⟨(some 12), [], [.t 11], [], [], .len true, none⟩,
 ⟨(some 13), [], [.t 10, .t 12], [], [], .bini .lss, none⟩] [10, 11, 12] [])
 (.cond (.t 13)
 .skip
 (.exit 0)))
 (.seq
 (.block 1
 (.seq
 (.reg [⟨(some 16), [], [.t 0], [], [], .cp, none⟩,
 ⟨(some 17), [], [.t 8], [], [], .cp, none⟩,
 ⟨(some 18), [], [.t 16, .t 17], [], [], .indexs, none⟩,
 ⟨(some 9), [18], [.t 18], [], [], .mv, none⟩] [16, 17, 18] [])
 (.seq
 (.seq
 (.reg [⟨(some 19), [], [.t 8], [], [], .cp, none⟩,
 ⟨(some 20), [], [.t 1], [], [], .cp, none⟩,
 ⟨(some 21), [], [.t 19, .t 20], [], [], .bini .eql, none⟩] [19, 20] [])
 (.cond (.t 21)
 (.reg [⟨(some 22), [], [.t 9], [], [], .cp, none⟩,
 ⟨(some 23), [], [.t 2], [], [], .cp, none⟩,
 ⟨(some 24), [], [.t 22, .t 23], [], [], .bini .xor, none⟩,
 ⟨(some 9), [24], [.t 24], [], [], .mv, none⟩] [22, 23, 24] [])
 .skip))
 (.reg [⟨(some 25), [7], [.t 7], [], [], .mv, none⟩,
 ⟨(some 26), [], [.t 9], [], [], .cp, none⟩,
 ⟨(some 27), [], [.t 26], [], [], .bslice 1 [.int .u8 0] [(0, 1)], none⟩,
 ⟨(some 28), [25], [.t 25, .t 27], [], [], .append 1 1, none⟩,
 ⟨(some 7), [28], [.t 28], [], [], .mv, none⟩] [25, 26, 27, 28] []))))
 (.reg [⟨(some 14), [], [.t 8], [], [], .cp, none⟩,
 ⟨(some 15), [], [.t 14, .c (.int .i64 1)], [], [], .bini .add, none⟩,
 ⟨(some 8), [15], [.t 15], [], [], .mv, none⟩] [9, 10, 11, 12, 13, 14, 15, 16, 17, 18, 19, 20, 21, 22, 23, 24, 25, 26, 27, 28] []))))))
 (.seq
 (.reg [⟨(some 29), [], [.t 7], [], [], .cp, none⟩,
 ⟨(some 30), [], [.t 29], [], [], .b2s, none⟩,
 ⟨(some 6), [30], [.t 30], [], [], .mv, none⟩] [29, 30] [])
 .ret)))) }

end Go.AR
