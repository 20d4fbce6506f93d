import Derived.Test.YtillphnjhefioaaG02
import Derived.Test.YtillphnjhefioaaG03
import Derived.Test.YtillphnjhefioaaG09
set_option linter.all false
/-! Codes, printed by program. -/
namespace Go.AR
def H_pref03_Runes : Hints := [(3, { ops := [], kt := [8, 9, 10], kb := [] }),
 (4, { ops := [], kt := [12, 13, 14, 15, 16, 17, 18], kb := [] }),
 (5, { ops := [], kt := [19], kb := [] }),
 (7, { ops := [(0, { take := true })], kt := [21, 22, 23, 24], kb := [] }),
 (8, { ops := [], kt := [25, 26, 27], kb := [] }),
 (9, { ops := [], kt := [28], kb := [] }),
 (1000001, { ops := [], kt := [6, 7, 8, 9, 10, 11, 12, 13, 14, 15, 16, 17, 18, 19, 20, 21, 22, 23, 24, 25, 26, 27], kb := [] })]
def c_pref03_Runes (F : Nat → FuncId) : AFun := { nparams := 1, ntmps := 29, results := [.tmp 2, .tmp 3], body :=
 (.seq
 (.reg [⟨(some 2), [], [], [], [], .nils 1, none⟩,
 ⟨(some 3), [], [.c (.bool false)], [], [], .cp, none⟩] [] [])
 (.seq
 (.reg [⟨(some 4), [], [], [], [], .nils 1, none⟩] [] [])
 (.seq
 (.seq
 (.reg [⟨(some 5), [], [.c (.int .i64 0)], [], [], .cp, none⟩] [] [])
 (.block 0
 (.loop
 (.seq
 (.seq
 (.reg [⟨(some 8), [], [.t 5], [], [], .cp, none⟩,
 ⟨(some 9), [], [.t 0], [], [], .cp, none⟩,
 ⟨(some 10), [], [.t 9], [], [], .len true, none⟩,
 ⟨(some 11), [], [.t 8, .t 10], [], [], .bini .lss, none⟩] [8, 9, 10] [])
 (.cond (.t 11)
 .skip
 (.exit 0)))
 (.seq
 (.block 1
 (.seq
 (.reg [⟨(some 13), [], [.t 0], [], [], .cp, none⟩,
 ⟨(some 14), [], [.t 5], [], [], .cp, none⟩,
 ⟨(some 15), [], [.t 13, .t 14], [], [], .slices true false, none⟩,
 ⟨(some 16), [], [.c (.fn (F n_pref03_Char)), .t 15], [], [], .call 0 false, none⟩,
 ⟨(some 12), [], [.t 16], [], [], .cp, none⟩,
 ⟨(some 17), [], [.t 12], [], [], .extract 0, none⟩,
 ⟨(some 18), [], [.t 12], [], [], .extract 1, none⟩,
 ⟨(some 6), [17], [.t 17], [], [], .mv, none⟩,
 ⟨(some 7), [18], [.t 18], [], [], .mv, none⟩] [12, 13, 14, 15, 16, 17, 18] [])
 (.seq
 (.seq
 (.reg [⟨(some 19), [], [.t 7], [], [], .cp, none⟩,
 ⟨(some 20), [], [.t 19, .c (.int .i64 0)], [], [], .bini .eql, none⟩] [19] [])
 (.cond (.t 20)
 (.seq
 (.reg [⟨(some 2), [], [], [], [], .nils 1, none⟩,
 ⟨(some 3), [], [.c (.bool false)], [], [], .cp, none⟩] [] [])
 .ret)
 .skip))
 (.seq
 (.reg [⟨(some 21), [4], [.t 4], [], [], .mv, none⟩,
 ⟨(some 22), [], [.t 6], [], [], .cp, none⟩,
 ⟨(some 23), [], [.t 22], [], [], .bslice 1 [.int .i64 0] [(0, 1)], none⟩,
 ⟨(some 24), [21], [.t 21, .t 23], [], [], .append 1 8, none⟩,
 ⟨(some 4), [24], [.t 24], [], [], .mv, none⟩] [21, 22, 23, 24] [])
 (.reg [⟨(some 25), [], [.t 5], [], [], .cp, none⟩,
 ⟨(some 26), [], [.t 7], [], [], .cp, none⟩,
 ⟨(some 27), [], [.t 25, .t 26], [], [], .bini .add, none⟩,
 ⟨(some 5), [27], [.t 27], [], [], .mv, none⟩] [25, 26, 27] [])))))
 (.reg [] [6, 7, 8, 9, 10, 11, 12, 13, 14, 15, 16, 17, 18, 19, 20, 21, 22, 23, 24, 25, 26, 27] []))))))
 (.seq
 (.reg [⟨(some 28), [], [.t 4], [], [], .cp, none⟩,
 ⟨(some 2), [28], [.t 28], [], [], .mv, none⟩,
 ⟨(some 3), [], [.c (.bool true)], [], [], .cp, none⟩] [28] [])
 .ret)))) }

def H_pref03_Right : Hints := [(1, { ops := [], kt := [6, 7, 8, 9, 10], kb := [] }),
 (3, { ops := [], kt := [11, 12, 13], kb := [] }),
 (4, { ops := [], kt := [11, 12, 13, 14, 15, 16, 17, 18, 19, 20, 21, 22], kb := [] }),
 (5, { ops := [], kt := [17, 18, 19, 20, 21], kb := [] }),
 (7, { ops := [], kt := [23, 24, 25, 26, 27, 28, 29, 30, 31, 32, 33], kb := [] })]
def c_pref03_Right (F : Nat → FuncId) : AFun := { nparams := 1, ntmps := 34, results := [.tmp 2], body :=
 (.seq
 (.reg [⟨(some 2), [], [.c (.bool false)], [], [], .cp, none⟩] [] [])
 (.seq
 (.reg [⟨(some 7), [], [.t 0], [], [], .cp, none⟩,
 ⟨(some 8), [], [.c (.fn (F n_pref03_Runes)), .t 7], [], [], .call 0 false, none⟩,
 ⟨(some 6), [], [.t 8], [], [], .cp, none⟩,
 ⟨(some 9), [], [.t 6], [], [], .extract 0, none⟩,
 ⟨(some 10), [], [.t 6], [], [], .extract 1, none⟩,
 ⟨(some 3), [9], [.t 9], [], [], .mv, none⟩,
 ⟨(some 4), [10], [.t 10], [], [], .mv, none⟩] [6, 7, 8, 9, 10] [])
 (.seq
 (.seq
 (.reg [⟨(some 5), [], [.c (.int .i64 0)], [], [], .cp, none⟩] [] [])
 (.block 0
 (.loop
 (.seq
 (.seq
 (.reg [⟨(some 11), [], [.t 5], [], [], .cp, none⟩,
 ⟨(some 12), [], [.t 3], [], [], .cp, none⟩,
 ⟨(some 13), [], [.t 12], [], [], .len false, none⟩,
 ⟨(some 14), [], [.t 11, .t 13], [], [], .bini .lss, none⟩] [11, 12, 13] [])
 (.cond (.t 14)
 .skip
 (.exit 0)))
 (.seq
 (.block 1
 (.seq
 (.reg [⟨(some 17), [], [.t 3], [], [], .cp, none⟩,
 ⟨(some 18), [], [.t 5], [], [], .cp, none⟩,
 ⟨(some 19), [], [.t 17, .t 18], [], [], .iaddr none 1, none⟩,
 ⟨(some 20), [], [.t 19], [], [], .load false 1, none⟩,
 ⟨(some 21), [], [.c (.fn (F n_pref03_may)), .t 20], [], [], .call 0 false, none⟩,
 ⟨(some 22), [], [.t 21], [], [], .not, none⟩] [17, 18, 19, 20, 21] [])
 (.cond (.t 22)
 (.seq
 (.reg [⟨(some 2), [], [.c (.bool false)], [], [], .cp, none⟩] [] [])
 .ret)
 .skip)))
 (.reg [⟨(some 15), [], [.t 5], [], [], .cp, none⟩,
 ⟨(some 16), [], [.t 15, .c (.int .i64 1)], [], [], .bini .add, none⟩,
 ⟨(some 5), [16], [.t 16], [], [], .mv, none⟩] [11, 12, 13, 14, 15, 16, 17, 18, 19, 20, 21, 22] []))))))
 (.seq
 (.reg [⟨(some 23), [], [.t 4], [], [], .cp, none⟩,
 ⟨(some 24), [], [.t 23], [], [], .cp, none⟩,
 ⟨(some 25), [], [.t 3], [], [], .cp, some (24, true)⟩,
 ⟨(some 26), [], [.t 25], [], [], .len false, some (24, true)⟩,
 ⟨(some 27), [], [.t 26, .c (.int .i64 1)], [], [], .bini .geq, some (24, true)⟩,
 ⟨(some 28), [], [.t 24, .t 27, .c (.bool false)], [], [], .pick, none⟩,
 ⟨(some 29), [], [.t 28], [], [], .cp, none⟩,
 ⟨(some 30), [], [.t 3], [], [], .cp, some (29, true)⟩,
 ⟨(some 31), [], [.t 30], [], [], .len false, some (29, true)⟩,
 ⟨(some 32), [], [.t 31, .c (.int .i64 24)], [], [], .bini .leq, some (29, true)⟩,
 ⟨(some 33), [], [.t 29, .t 32, .c (.bool false)], [], [], .pick, none⟩,
 ⟨(some 2), [33], [.t 33], [], [], .mv, none⟩] [23, 24, 25, 26, 27, 28, 29, 30, 31, 32, 33] [])
 .ret)))) }

def H_pref03_Char : Hints := [(1, { ops := [], kt := [8, 9], kb := [] }),
 (3, { ops := [], kt := [11, 12, 13], kb := [] }),
 (6, { ops := [], kt := [15, 16], kb := [] }),
 (7, { ops := [], kt := [17], kb := [] }),
 (8, { ops := [], kt := [19, 20, 21, 22, 23, 24], kb := [] }),
 (9, { ops := [], kt := [25, 26], kb := [] }),
 (10, { ops := [], kt := [28, 29, 30, 31, 32, 33], kb := [] }),
 (11, { ops := [], kt := [34, 35], kb := [] }),
 (12, { ops := [], kt := [37, 38, 39, 40, 41, 42], kb := [] }),
 (13, { ops := [], kt := [43, 44], kb := [] }),
 (14, { ops := [], kt := [45, 46, 47], kb := [] }),
 (17, { ops := [], kt := [49, 50], kb := [] }),
 (18, { ops := [], kt := [49, 50, 51, 52, 53, 54, 55, 56, 57, 58, 59, 60, 61, 62, 63, 64, 65, 66, 67, 68, 69, 70, 71], kb := [] }),
 (19, { ops := [], kt := [54, 55, 56, 57, 58, 59, 60, 61, 62], kb := [] }),
 (21, { ops := [], kt := [64, 65, 66, 67, 68, 69, 70, 71], kb := [] }),
 (22, { ops := [], kt := [72, 73, 74, 75, 76, 77, 78, 79, 80, 81, 82, 83, 84, 85], kb := [] }),
 (24, { ops := [], kt := [87, 88], kb := [] })]
def c_pref03_Char (F : Nat → FuncId) : AFun := { nparams := 1, ntmps := 89, results := [.tmp 2, .tmp 3], body :=
 (.seq
 (.reg [⟨(some 2), [], [.c (.int .i64 0)], [], [], .cp, none⟩,
 ⟨(some 3), [], [.c (.int .i64 0)], [], [], .cp, none⟩] [] [])
 (.seq
 (.seq
 (.reg [⟨(some 8), [], [.t 0], [], [], .cp, none⟩,
 ⟨(some 9), [], [.t 8], [], [], .len true, none⟩,
 ⟨(some 10), [], [.t 9, .c (.int .i64 0)], [], [], .bini .eql, none⟩] [8, 9] [])
 (.cond (.t 10)
 (.seq
 (.reg [⟨(some 2), [], [.c (.int .i64 0)], [], [], .cp, none⟩,
 ⟨(some 3), [], [.c (.int .i64 0)], [], [], .cp, none⟩] [] [])
 .ret)
 .skip))
 (.seq
 (.reg [⟨(some 11), [], [.t 0], [], [], .cp, none⟩,
 ⟨(some 12), [], [.t 11, .c (.int .i64 0)], [], [], .indexs, none⟩,
 ⟨(some 13), [], [.t 12], [], [], .conv .i64, none⟩,
 ⟨(some 4), [13], [.t 13], [], [], .mv, none⟩] [11, 12, 13] [])
 (.seq
 (.reg [⟨(some 5), [], [.c (.int .i64 1)], [], [], .cp, none⟩,
 ⟨(some 6), [], [.c (.int .i64 0)], [], [], .cp, none⟩] [] [])
 (.seq
 (.block 0
 (.seq
 (.reg [⟨(some 15), [], [.t 4], [], [], .cp, none⟩,
 ⟨(some 16), [], [.t 15, .c (.int .i64 128)], [], [], .bini .lss, none⟩,
 ⟨(some 14), [16], [.t 16], [], [], .mv, none⟩] [15, 16] [])
 (.cond (.t 14)
 (.seq
 (.reg [⟨(some 17), [], [.t 4], [], [], .cp, none⟩,
 ⟨(some 2), [17], [.t 17], [], [], .mv, none⟩,
 ⟨(some 3), [], [.c (.int .i64 1)], [], [], .cp, none⟩] [17] [])
 .ret)
 (.seq
 (.reg [⟨(some 19), [], [.t 4], [], [], .cp, none⟩,
 ⟨(some 20), [], [.t 19, .c (.int .i64 194)], [], [], .bini .geq, none⟩,
 ⟨(some 21), [], [.t 20], [], [], .cp, none⟩,
 ⟨(some 22), [], [.t 4], [], [], .cp, some (21, true)⟩,
 ⟨(some 23), [], [.t 22, .c (.int .i64 224)], [], [], .bini .lss, some (21, true)⟩,
 ⟨(some 24), [], [.t 21, .t 23, .c (.bool false)], [], [], .pick, none⟩,
 ⟨(some 18), [24], [.t 24], [], [], .mv, none⟩] [19, 20, 21, 22, 23, 24] [])
 (.cond (.t 18)
 (.reg [⟨(some 25), [], [.t 4], [], [], .cp, none⟩,
 ⟨(some 26), [], [.t 25, .c (.int .i64 192)], [], [], .bini .sub, none⟩,
 ⟨(some 5), [], [.c (.int .i64 2)], [], [], .cp, none⟩,
 ⟨(some 6), [], [.c (.int .i64 128)], [], [], .cp, none⟩,
 ⟨(some 4), [26], [.t 26], [], [], .mv, none⟩] [25, 26] [])
 (.seq
 (.reg [⟨(some 28), [], [.t 4], [], [], .cp, none⟩,
 ⟨(some 29), [], [.t 28, .c (.int .i64 224)], [], [], .bini .geq, none⟩,
 ⟨(some 30), [], [.t 29], [], [], .cp, none⟩,
 ⟨(some 31), [], [.t 4], [], [], .cp, some (30, true)⟩,
 ⟨(some 32), [], [.t 31, .c (.int .i64 240)], [], [], .bini .lss, some (30, true)⟩,
 ⟨(some 33), [], [.t 30, .t 32, .c (.bool false)], [], [], .pick, none⟩,
 ⟨(some 27), [33], [.t 33], [], [], .mv, none⟩] [28, 29, 30, 31, 32, 33] [])
 (.cond (.t 27)
 (.reg [⟨(some 34), [], [.t 4], [], [], .cp, none⟩,
 ⟨(some 35), [], [.t 34, .c (.int .i64 224)], [], [], .bini .sub, none⟩,
 ⟨(some 5), [], [.c (.int .i64 3)], [], [], .cp, none⟩,
 ⟨(some 6), [], [.c (.int .i64 2048)], [], [], .cp, none⟩,
 ⟨(some 4), [35], [.t 35], [], [], .mv, none⟩] [34, 35] [])
 (.seq
 (.reg [⟨(some 37), [], [.t 4], [], [], .cp, none⟩,
 ⟨(some 38), [], [.t 37, .c (.int .i64 240)], [], [], .bini .geq, none⟩,
 ⟨(some 39), [], [.t 38], [], [], .cp, none⟩,
 ⟨(some 40), [], [.t 4], [], [], .cp, some (39, true)⟩,
 ⟨(some 41), [], [.t 40, .c (.int .i64 245)], [], [], .bini .lss, some (39, true)⟩,
 ⟨(some 42), [], [.t 39, .t 41, .c (.bool false)], [], [], .pick, none⟩,
 ⟨(some 36), [42], [.t 42], [], [], .mv, none⟩] [37, 38, 39, 40, 41, 42] [])
 (.cond (.t 36)
 (.reg [⟨(some 43), [], [.t 4], [], [], .cp, none⟩,
 ⟨(some 44), [], [.t 43, .c (.int .i64 240)], [], [], .bini .sub, none⟩,
 ⟨(some 5), [], [.c (.int .i64 4)], [], [], .cp, none⟩,
 ⟨(some 6), [], [.c (.int .i64 65536)], [], [], .cp, none⟩,
 ⟨(some 4), [44], [.t 44], [], [], .mv, none⟩] [43, 44] [])
 (.seq
 (.reg [⟨(some 2), [], [.c (.int .i64 0)], [], [], .cp, none⟩,
 ⟨(some 3), [], [.c (.int .i64 0)], [], [], .cp, none⟩] [] [])
 .ret))))))))))
 (.seq
 (.seq
 (.reg [⟨(some 45), [], [.t 0], [], [], .cp, none⟩,
 ⟨(some 46), [], [.t 45], [], [], .len true, none⟩,
 ⟨(some 47), [], [.t 5], [], [], .cp, none⟩,
 ⟨(some 48), [], [.t 46, .t 47], [], [], .bini .lss, none⟩] [45, 46, 47] [])
 (.cond (.t 48)
 (.seq
 (.reg [⟨(some 2), [], [.c (.int .i64 0)], [], [], .cp, none⟩,
 ⟨(some 3), [], [.c (.int .i64 0)], [], [], .cp, none⟩] [] [])
 .ret)
 .skip))
 (.seq
 (.seq
 (.reg [⟨(some 7), [], [.c (.int .i64 1)], [], [], .cp, none⟩] [] [])
 (.block 1
 (.loop
 (.seq
 (.seq
 (.reg [⟨(some 49), [], [.t 7], [], [], .cp, none⟩,
 ⟨(some 50), [], [.t 5], [], [], .cp, none⟩,
 ⟨(some 51), [], [.t 49, .t 50], [], [], .bini .lss, none⟩] [49, 50] [])
 (.cond (.t 51)
 .skip
 (.exit 1)))
 (.seq
 (.block 2
 (.seq
 (.seq
 (.reg [⟨(some 54), [], [.t 0], [], [], .cp, none⟩,
 ⟨(some 55), [], [.t 7], [], [], .cp, none⟩,
 ⟨(some 56), [], [.t 54, .t 55], [], [], .indexs, none⟩,
 ⟨(some 57), [], [.t 56, .c (.int .u8 128)], [], [], .bini .lss, none⟩,
 ⟨(some 58), [], [.t 57], [], [], .cp, none⟩,
 ⟨(some 59), [], [.t 0], [], [], .cp, some (58, false)⟩,
 ⟨(some 60), [], [.t 7], [], [], .cp, some (58, false)⟩,
 ⟨(some 61), [], [.t 59, .t 60], [], [], .indexs, some (58, false)⟩,
 ⟨(some 62), [], [.t 61, .c (.int .u8 191)], [], [], .bini .gtr, some (58, false)⟩,
 ⟨(some 63), [], [.t 58, .c (.bool true), .t 62], [], [], .pick, none⟩] [54, 55, 56, 57, 58, 59, 60, 61, 62] [])
 (.cond (.t 63)
 (.seq
 (.reg [⟨(some 2), [], [.c (.int .i64 0)], [], [], .cp, none⟩,
 ⟨(some 3), [], [.c (.int .i64 0)], [], [], .cp, none⟩] [] [])
 .ret)
 .skip))
 (.reg [⟨(some 64), [], [.t 4], [], [], .cp, none⟩,
 ⟨(some 65), [], [.c (.int .i64 64), .t 64], [], [], .bini .mul, none⟩,
 ⟨(some 66), [], [.t 0], [], [], .cp, none⟩,
 ⟨(some 67), [], [.t 7], [], [], .cp, none⟩,
 ⟨(some 68), [], [.t 66, .t 67], [], [], .indexs, none⟩,
 ⟨(some 69), [], [.t 68], [], [], .conv .i64, none⟩,
 ⟨(some 70), [], [.t 65, .t 69], [], [], .bini .add, none⟩,
 ⟨(some 71), [], [.t 70, .c (.int .i64 128)], [], [], .bini .sub, none⟩,
 ⟨(some 4), [71], [.t 71], [], [], .mv, none⟩] [64, 65, 66, 67, 68, 69, 70, 71] [])))
 (.reg [⟨(some 52), [], [.t 7], [], [], .cp, none⟩,
 ⟨(some 53), [], [.t 52, .c (.int .i64 1)], [], [], .bini .add, none⟩,
 ⟨(some 7), [53], [.t 53], [], [], .mv, none⟩] [49, 50, 51, 52, 53, 54, 55, 56, 57, 58, 59, 60, 61, 62, 63, 64, 65, 66, 67, 68, 69, 70, 71] []))))))
 (.seq
 (.seq
 (.reg [⟨(some 72), [], [.t 4], [], [], .cp, none⟩,
 ⟨(some 73), [], [.t 6], [], [], .cp, none⟩,
 ⟨(some 74), [], [.t 72, .t 73], [], [], .bini .lss, none⟩,
 ⟨(some 75), [], [.t 74], [], [], .cp, none⟩,
 ⟨(some 76), [], [.t 4], [], [], .cp, some (75, false)⟩,
 ⟨(some 77), [], [.t 76, .c (.int .i64 1114111)], [], [], .bini .gtr, some (75, false)⟩,
 ⟨(some 78), [], [.t 75, .c (.bool true), .t 77], [], [], .pick, none⟩,
 ⟨(some 79), [], [.t 78], [], [], .cp, none⟩,
 ⟨(some 80), [], [.t 4], [], [], .cp, some (79, false)⟩,
 ⟨(some 81), [], [.t 80, .c (.int .i64 55296)], [], [], .bini .geq, some (79, false)⟩,
 ⟨(some 82), [], [.t 81], [], [], .cp, some (79, false)⟩,
 ⟨(some 83), [], [.t 4], [], [], .cp, some (82, true)⟩,
 ⟨(some 84), [], [.t 83, .c (.int .i64 57343)], [], [], .bini .leq, some (82, true)⟩,
 ⟨(some 85), [], [.t 82, .t 84, .c (.bool false)], [], [], .pick, some (79, false)⟩,
 ⟨(some 86), [], [.t 79, .c (.bool true), .t 85], [], [], .pick, none⟩] [72, 73, 74, 75, 76, 77, 78, 79, 80, 81, 82, 83, 84, 85] [])
 (.cond (.t 86)
 (.seq
 (.reg [⟨(some 2), [], [.c (.int .i64 0)], [], [], .cp, none⟩,
 ⟨(some 3), [], [.c (.int .i64 0)], [], [], .cp, none⟩] [] [])
 .ret)
 .skip))
 (.seq
 (.reg [⟨(some 87), [], [.t 4], [], [], .cp, none⟩,
 ⟨(some 88), [], [.t 5], [], [], .cp, none⟩,
 ⟨(some 2), [87], [.t 87], [], [], .mv, none⟩,
 ⟨(some 3), [88], [.t 88], [], [], .mv, none⟩] [87, 88] [])
 .ret))))))))) }

def H_pref03_may : Hints := [(1, { ops := [], kt := [3, 4, 5, 6, 7, 8, 9, 10, 11, 12, 13, 14, 15, 16], kb := [] })]
def c_pref03_may (F : Nat → FuncId) : AFun := { nparams := 1, ntmps := 17, results := [.tmp 2], body :=
 (.seq
 (.reg [⟨(some 2), [], [.c (.bool false)], [], [], .cp, none⟩] [] [])
 (.seq
 (.reg [⟨(some 3), [], [.t 0], [], [], .cp, none⟩,
 ⟨(some 4), [], [.t 3, .c (.int .i64 32)], [], [], .bini .geq, none⟩,
 ⟨(some 5), [], [.t 4], [], [], .cp, none⟩,
 ⟨(some 6), [], [.t 0], [], [], .cp, some (5, true)⟩,
 ⟨(some 7), [], [.t 6, .c (.int .i64 127)], [], [], .bini .lss, some (5, true)⟩,
 ⟨(some 8), [], [.t 7], [], [], .cp, some (5, true)⟩,
 ⟨(some 9), [], [.t 0], [], [], .cp, some (8, false)⟩,
 ⟨(some 10), [], [.t 9, .c (.int .i64 159)], [], [], .bini .gtr, some (8, false)⟩,
 ⟨(some 11), [], [.t 8, .c (.bool true), .t 10], [], [], .pick, some (5, true)⟩,
 ⟨(some 12), [], [.t 5, .t 11, .c (.bool false)], [], [], .pick, none⟩,
 ⟨(some 13), [], [.t 12], [], [], .cp, none⟩,
 ⟨(some 14), [], [.t 0], [], [], .cp, some (13, true)⟩,
 ⟨(some 15), [], [.t 14, .c (.int .i64 65533)], [], [], .bini .neq, some (13, true)⟩,
 ⟨(some 16), [], [.t 13, .t 15, .c (.bool false)], [], [], .pick, none⟩,
 ⟨(some 2), [16], [.t 16], [], [], .mv, none⟩] [3, 4, 5, 6, 7, 8, 9, 10, 11, 12, 13, 14, 15, 16] [])
 .ret)) }

end Go.AR

/-! Codes, printed by program. -/
namespace Go.AR
def H_pref12_Short : Hints := [(1, { ops := [(1, { mr := [1] })], kt := [4, 5, 6], kb := [] }),
 (4, { ops := [(2, { mr := [1] })], kt := [8, 9, 10, 11], kb := [] }),
 (5, { ops := [], kt := [8, 9, 10, 11, 12, 13, 14, 15, 16, 17, 18, 19, 20, 21], kb := [] }),
 (6, { ops := [(1, { mr := [1] })], kt := [15, 16, 17, 18, 19, 20], kb := [] })]
def c_pref12_Short (F : Nat → FuncId) : AFun := { nparams := 1, ntmps := 22, results := [.tmp 2], body :=
 (.seq
 (.reg [⟨(some 1), [], [.t 0], [], [1], .box, none⟩,
 ⟨(some 2), [], [.c (.bool false)], [], [], .cp, none⟩] [] [])
 (.seq
 (.seq
 (.reg [⟨(some 4), [], [.t 1], [], [], .faddr 5, none⟩,
 ⟨(some 5), [], [.t 4], [1], [], .load false 1, none⟩,
 ⟨(some 6), [], [.t 5], [], [], .len false, none⟩,
 ⟨(some 7), [], [.t 6, .c (.int .i64 20)], [], [], .bini .gtr, none⟩] [4, 5, 6] [])
 (.cond (.t 7)
 (.seq
 (.reg [⟨(some 2), [], [.c (.bool false)], [], [], .cp, none⟩] [] [])
 .ret)
 .skip))
 (.seq
 (.seq
 (.reg [⟨(some 3), [], [.c (.int .i64 0)], [], [], .cp, none⟩] [] [])
 (.block 0
 (.loop
 (.seq
 (.seq
 (.reg [⟨(some 8), [], [.t 3], [], [], .cp, none⟩,
 ⟨(some 9), [], [.t 1], [], [], .faddr 5, none⟩,
 ⟨(some 10), [], [.t 9], [1], [], .load false 1, none⟩,
 ⟨(some 11), [], [.t 10], [], [], .len false, none⟩,
 ⟨(some 12), [], [.t 8, .t 11], [], [], .bini .lss, none⟩] [8, 9, 10, 11] [])
 (.cond (.t 12)
 .skip
 (.exit 0)))
 (.seq
 (.block 1
 (.seq
 (.reg [⟨(some 15), [], [.t 1], [], [], .faddr 5, none⟩,
 ⟨(some 16), [], [.t 15], [1], [], .load false 1, none⟩,
 ⟨(some 17), [], [.t 3], [], [], .cp, none⟩,
 ⟨(some 18), [], [.t 16, .t 17], [], [], .iaddr none 7, none⟩,
 ⟨(some 19), [], [.t 18], [], [], .load true 7, none⟩,
 ⟨(some 20), [], [.c (.fn (F n_pref11_Short)), .t 19], [], [], .call 0 false, none⟩,
 ⟨(some 21), [], [.t 20], [], [], .not, none⟩] [15, 16, 17, 18, 19, 20] [])
 (.cond (.t 21)
 (.seq
 (.reg [⟨(some 2), [], [.c (.bool false)], [], [], .cp, none⟩] [] [])
 .ret)
 .skip)))
 (.reg [⟨(some 13), [], [.t 3], [], [], .cp, none⟩,
 ⟨(some 14), [], [.t 13, .c (.int .i64 1)], [], [], .bini .add, none⟩,
 ⟨(some 3), [14], [.t 14], [], [], .mv, none⟩] [8, 9, 10, 11, 12, 13, 14, 15, 16, 17, 18, 19, 20, 21] []))))))
 (.seq
 (.reg [⟨(some 2), [], [.c (.bool true)], [], [], .cp, none⟩] [] [])
 .ret)))) }

def H_pref12_Check : Hints := [(1, { ops := [(1, { mr := [1] }), (6, { mr := [1] }), (11, { mr := [1] }), (16, { mr := [1] }), (21, { mr := [1] })], kt := [5, 6, 7, 8, 9, 10, 11, 12, 13, 14, 15, 16, 17, 18, 19, 20, 21, 22, 23, 24, 25, 26, 27], kb := [] }),
 (3, { ops := [(1, { mr := [1] })], kt := [29, 30, 31], kb := [] }),
 (5, { ops := [(1, { mr := [1] })], kt := [33, 34, 35], kb := [] }),
 (8, { ops := [(2, { mr := [1] })], kt := [37, 38, 39, 40], kb := [] }),
 (9, { ops := [], kt := [4, 37, 38, 39, 40, 41, 42, 43, 44, 45, 46, 47, 48, 49, 50, 51, 52, 53, 54, 55, 56, 57, 58, 59, 60, 61, 62, 63, 64, 65], kb := [] }),
 (10, { ops := [(1, { mr := [1] })], kt := [44, 45, 46, 47, 48, 49], kb := [] }),
 (11, { ops := [(4, { mr := [1] }), (7, { mr := [1] })], kt := [50, 51, 52, 53, 54, 55, 56, 57, 58, 59, 60, 61, 62, 63], kb := [] }),
 (12, { ops := [], kt := [65], kb := [] })]
def c_pref12_Check (F : Nat → FuncId) : AFun := { nparams := 1, ntmps := 66, results := [.tmp 2], body :=
 (.seq
 (.reg [⟨(some 1), [], [.t 0], [], [1], .box, none⟩,
 ⟨(some 2), [], [.c (.int .i64 0)], [], [], .cp, none⟩] [] [])
 (.seq
 (.seq
 (.reg [⟨(some 5), [], [.t 1], [], [], .faddr 0, none⟩,
 ⟨(some 6), [], [.t 5], [1], [], .load true 2, none⟩,
 ⟨(some 7), [], [.c (.fn (F n_pref04_Right)), .t 6], [], [], .call 0 false, none⟩,
 ⟨(some 8), [], [.t 7], [], [], .not, none⟩,
 ⟨(some 9), [], [.t 8], [], [], .cp, none⟩,
 ⟨(some 10), [], [.t 1], [], [], .faddr 2, some (9, false)⟩,
 ⟨(some 11), [], [.t 10], [1], [], .load false 1, some (9, false)⟩,
 ⟨(some 12), [], [.t 11, .c (.int .i64 0)], [], [], .bini .lss, some (9, false)⟩,
 ⟨(some 13), [], [.t 9, .c (.bool true), .t 12], [], [], .pick, none⟩,
 ⟨(some 14), [], [.t 13], [], [], .cp, none⟩,
 ⟨(some 15), [], [.t 1], [], [], .faddr 2, some (14, false)⟩,
 ⟨(some 16), [], [.t 15], [1], [], .load false 1, some (14, false)⟩,
 ⟨(some 17), [], [.t 16, .c (.int .i64 7)], [], [], .bini .gtr, some (14, false)⟩,
 ⟨(some 18), [], [.t 14, .c (.bool true), .t 17], [], [], .pick, none⟩,
 ⟨(some 19), [], [.t 18], [], [], .cp, none⟩,
 ⟨(some 20), [], [.t 1], [], [], .faddr 3, some (19, false)⟩,
 ⟨(some 21), [], [.t 20], [1], [], .load false 1, some (19, false)⟩,
 ⟨(some 22), [], [.t 21, .c (.int .i64 1)], [], [], .bini .lss, some (19, false)⟩,
 ⟨(some 23), [], [.t 19, .c (.bool true), .t 22], [], [], .pick, none⟩,
 ⟨(some 24), [], [.t 23], [], [], .cp, none⟩,
 ⟨(some 25), [], [.t 1], [], [], .faddr 3, some (24, false)⟩,
 ⟨(some 26), [], [.t 25], [1], [], .load false 1, some (24, false)⟩,
 ⟨(some 27), [], [.t 26, .c (.int .i64 1099511627776)], [], [], .bini .gtr, some (24, false)⟩,
 ⟨(some 28), [], [.t 24, .c (.bool true), .t 27], [], [], .pick, none⟩] [5, 6, 7, 8, 9, 10, 11, 12, 13, 14, 15, 16, 17, 18, 19, 20, 21, 22, 23, 24, 25, 26, 27] [])
 (.cond (.t 28)
 (.seq
 (.reg [⟨(some 2), [], [.c (.int .i64 2)], [], [], .cp, none⟩] [] [])
 .ret)
 .skip))
 (.seq
 (.seq
 (.reg [⟨(some 29), [], [.t 1], [], [], .faddr 5, none⟩,
 ⟨(some 30), [], [.t 29], [1], [], .load false 1, none⟩,
 ⟨(some 31), [], [.t 30], [], [], .len false, none⟩,
 ⟨(some 32), [], [.t 31, .c (.int .i64 0)], [], [], .bini .eql, none⟩] [29, 30, 31] [])
 (.cond (.t 32)
 (.seq
 (.reg [⟨(some 2), [], [.c (.int .i64 11)], [], [], .cp, none⟩] [] [])
 .ret)
 .skip))
 (.seq
 (.seq
 (.reg [⟨(some 33), [], [.t 1], [], [], .faddr 5, none⟩,
 ⟨(some 34), [], [.t 33], [1], [], .load false 1, none⟩,
 ⟨(some 35), [], [.t 34], [], [], .len false, none⟩,
 ⟨(some 36), [], [.t 35, .c (.int .i64 16)], [], [], .bini .gtr, none⟩] [33, 34, 35] [])
 (.cond (.t 36)
 (.seq
 (.reg [⟨(some 2), [], [.c (.int .i64 7)], [], [], .cp, none⟩] [] [])
 .ret)
 .skip))
 (.seq
 (.seq
 (.reg [⟨(some 3), [], [.c (.int .i64 0)], [], [], .cp, none⟩] [] [])
 (.block 0
 (.loop
 (.seq
 (.seq
 (.reg [⟨(some 37), [], [.t 3], [], [], .cp, none⟩,
 ⟨(some 38), [], [.t 1], [], [], .faddr 5, none⟩,
 ⟨(some 39), [], [.t 38], [1], [], .load false 1, none⟩,
 ⟨(some 40), [], [.t 39], [], [], .len false, none⟩,
 ⟨(some 41), [], [.t 37, .t 40], [], [], .bini .lss, none⟩] [37, 38, 39, 40] [])
 (.cond (.t 41)
 .skip
 (.exit 0)))
 (.seq
 (.block 1
 (.seq
 (.reg [⟨(some 44), [], [.t 1], [], [], .faddr 5, none⟩,
 ⟨(some 45), [], [.t 44], [1], [], .load false 1, none⟩,
 ⟨(some 46), [], [.t 3], [], [], .cp, none⟩,
 ⟨(some 47), [], [.t 45, .t 46], [], [], .iaddr none 7, none⟩,
 ⟨(some 48), [], [.t 47], [], [], .load true 7, none⟩,
 ⟨(some 49), [], [.c (.fn (F n_pref11_Check)), .t 48], [], [], .call 0 false, none⟩,
 ⟨(some 4), [49], [.t 49], [], [], .mv, none⟩] [44, 45, 46, 47, 48, 49] [])
 (.seq
 (.reg [⟨(some 50), [], [.t 4], [], [], .cp, none⟩,
 ⟨(some 51), [], [.t 50, .c (.int .i64 0)], [], [], .bini .neq, none⟩,
 ⟨(some 52), [], [.t 51], [], [], .cp, none⟩,
 ⟨(some 53), [], [.t 1], [], [], .faddr 4, some (52, true)⟩,
 ⟨(some 54), [], [.t 53], [1], [], .load false 1, some (52, true)⟩,
 ⟨(some 55), [], [.t 54], [], [], .cp, some (52, true)⟩,
 ⟨(some 56), [], [.t 1], [], [], .faddr 5, some (55, true)⟩,
 ⟨(some 57), [], [.t 56], [1], [], .load false 1, some (55, true)⟩,
 ⟨(some 58), [], [.t 3], [], [], .cp, some (55, true)⟩,
 ⟨(some 59), [], [.t 57, .t 58], [], [], .iaddr none 7, some (55, true)⟩,
 ⟨(some 60), [], [.t 59], [], [], .load true 7, some (55, true)⟩,
 ⟨(some 61), [], [.c (.fn (F n_pref11_Gone)), .t 60], [], [], .call 0 false, some (55, true)⟩,
 ⟨(some 62), [], [.t 55, .t 61, .c (.bool false)], [], [], .pick, some (52, true)⟩,
 ⟨(some 63), [], [.t 62], [], [], .not, some (52, true)⟩,
 ⟨(some 64), [], [.t 52, .t 63, .c (.bool false)], [], [], .pick, none⟩] [50, 51, 52, 53, 54, 55, 56, 57, 58, 59, 60, 61, 62, 63] [])
 (.cond (.t 64)
 (.seq
 (.reg [⟨(some 65), [], [.t 4], [], [], .cp, none⟩,
 ⟨(some 2), [65], [.t 65], [], [], .mv, none⟩] [65] [])
 .ret)
 .skip))))
 (.reg [⟨(some 42), [], [.t 3], [], [], .cp, none⟩,
 ⟨(some 43), [], [.t 42, .c (.int .i64 1)], [], [], .bini .add, none⟩,
 ⟨(some 3), [43], [.t 43], [], [], .mv, none⟩] [4, 37, 38, 39, 40, 41, 42, 43, 44, 45, 46, 47, 48, 49, 50, 51, 52, 53, 54, 55, 56, 57, 58, 59, 60, 61, 62, 63, 64, 65] []))))))
 (.seq
 (.reg [⟨(some 2), [], [.c (.int .i64 0)], [], [], .cp, none⟩] [] [])
 .ret)))))) }

def H_txn_Put : Hints := [(0, { ops := [(1, { x := 4 })], kt := [], kb := [] }),
 (1, { ops := [(2, { mr := [3] })], kt := [7, 8, 9, 10, 11, 12, 13], kb := [] }),
 (3, { ops := [], kt := [15], kb := [] }),
 (4, { ops := [(3, { mr := [3] }), (4, { x := 1 }), (5, { x := 1, wb := [17, 20] }), (6, { x := 3 })], kt := [16, 17, 18, 19, 20, 21], kb := [] })]
def c_txn_Put (F : Nat → FuncId) : AFun := { nparams := 2, ntmps := 22, results := [.tmp 4], body :=
 (.seq
 (.reg [⟨(some 3), [], [.t 1], [], [3], .box, none⟩,
 ⟨(some 4), [], [.c (.sl 6 [])], [], [], .cp, none⟩] [] [])
 (.seq
 (.reg [⟨(some 8), [], [.t 0], [], [], .cp, none⟩,
 ⟨(some 9), [], [.t 3], [], [], .faddr 0, none⟩,
 ⟨(some 10), [], [.t 9], [3], [], .load true 2, none⟩,
 ⟨(some 11), [], [.c (.fn (F n_slices_BinarySearchFunc_api_Txn_api_Txn_api_Dot)), .t 8, .t 10, .c (.fn (F n_txn_Put_1))], [], [], .call 0 false, none⟩,
 ⟨(some 7), [], [.t 11], [], [], .cp, none⟩,
 ⟨(some 12), [], [.t 7], [], [], .extract 0, none⟩,
 ⟨(some 13), [], [.t 7], [], [], .extract 1, none⟩,
 ⟨(some 5), [12], [.t 12], [], [], .mv, none⟩,
 ⟨(some 6), [13], [.t 13], [], [], .mv, none⟩] [7, 8, 9, 10, 11, 12, 13] [])
 (.seq
 (.seq
 (.reg [⟨(some 14), [], [.t 6], [], [], .cp, none⟩] [] [])
 (.cond (.t 14)
 (.seq
 (.reg [⟨(some 15), [], [.t 0], [], [], .cp, none⟩,
 ⟨(some 4), [15], [.t 15], [], [], .mv, none⟩] [15] [])
 .ret)
 .skip))
 (.seq
 (.reg [⟨(some 16), [], [.t 0], [], [], .cp, none⟩,
 ⟨(some 17), [], [.c (.fn (F n_slices_Clone_api_Txn_api_Txn)), .t 16], [], [], .call 0 false, none⟩,
 ⟨(some 18), [], [.t 5], [], [], .cp, none⟩,
 ⟨(some 19), [], [.t 3], [3], [], .load true 6, none⟩,
 ⟨(some 20), [], [.t 19], [], [], .bslicex 6 [.int .i64 0, .int .i64 0, .int .i64 0, .int .i64 0, .bool false, .sl 7 []] [(0, 6)], none⟩,
 ⟨(some 21), [17, 20], [.c (.fn (F n_slices_Insert_api_Txn_api_Txn)), .t 17, .t 18, .t 20], [], [], .callx 0 false, none⟩,
 ⟨(some 4), [21], [.t 21], [], [], .pubv, none⟩] [16, 17, 18, 19, 20, 21] [])
 .ret)))) }

def H_pref12_Rises : Hints := [(2, { ops := [], kt := [4, 5, 6], kb := [] }),
 (3, { ops := [], kt := [4, 5, 6, 7, 8, 9, 10, 11, 12, 13, 14, 15, 16, 17, 18, 19, 20, 21, 22], kb := [] }),
 (4, { ops := [], kt := [10, 11, 12, 13, 14, 15, 16, 17, 18, 19, 20, 21], kb := [] })]
def c_pref12_Rises (F : Nat → FuncId) : AFun := { nparams := 1, ntmps := 23, results := [.tmp 2], body :=
 (.seq
 (.reg [⟨(some 2), [], [.c (.bool false)], [], [], .cp, none⟩] [] [])
 (.seq
 (.seq
 (.reg [⟨(some 3), [], [.c (.int .i64 1)], [], [], .cp, none⟩] [] [])
 (.block 0
 (.loop
 (.seq
 (.seq
 (.reg [⟨(some 4), [], [.t 3], [], [], .cp, none⟩,
 ⟨(some 5), [], [.t 0], [], [], .cp, none⟩,
 ⟨(some 6), [], [.t 5], [], [], .len false, none⟩,
 ⟨(some 7), [], [.t 4, .t 6], [], [], .bini .lss, none⟩] [4, 5, 6] [])
 (.cond (.t 7)
 .skip
 (.exit 0)))
 (.seq
 (.block 1
 (.seq
 (.reg [⟨(some 10), [], [.t 0], [], [], .cp, none⟩,
 ⟨(some 11), [], [.t 3], [], [], .cp, none⟩,
 ⟨(some 12), [], [.t 11, .c (.int .i64 1)], [], [], .bini .sub, none⟩,
 ⟨(some 13), [], [.t 10, .t 12], [], [], .iaddr none 6, none⟩,
 ⟨(some 14), [], [.t 13], [], [], .faddr 0, none⟩,
 ⟨(some 15), [], [.t 14], [], [], .load true 2, none⟩,
 ⟨(some 16), [], [.t 0], [], [], .cp, none⟩,
 ⟨(some 17), [], [.t 3], [], [], .cp, none⟩,
 ⟨(some 18), [], [.t 16, .t 17], [], [], .iaddr none 6, none⟩,
 ⟨(some 19), [], [.t 18], [], [], .faddr 0, none⟩,
 ⟨(some 20), [], [.t 19], [], [], .load true 2, none⟩,
 ⟨(some 21), [], [.c (.fn (F n_pref04_Compare)), .t 15, .t 20], [], [], .call 0 false, none⟩,
 ⟨(some 22), [], [.t 21, .c (.int .i64 (-1))], [], [], .bini .neq, none⟩] [10, 11, 12, 13, 14, 15, 16, 17, 18, 19, 20, 21] [])
 (.cond (.t 22)
 (.seq
 (.reg [⟨(some 2), [], [.c (.bool false)], [], [], .cp, none⟩] [] [])
 .ret)
 .skip)))
 (.reg [⟨(some 8), [], [.t 3], [], [], .cp, none⟩,
 ⟨(some 9), [], [.t 8, .c (.int .i64 1)], [], [], .bini .add, none⟩,
 ⟨(some 3), [9], [.t 9], [], [], .mv, none⟩] [4, 5, 6, 7, 8, 9, 10, 11, 12, 13, 14, 15, 16, 17, 18, 19, 20, 21, 22] []))))))
 (.seq
 (.reg [⟨(some 2), [], [.c (.bool true)], [], [], .cp, none⟩] [] [])
 .ret))) }

def H_pref12_Find : Hints := [(2, { ops := [], kt := [6, 7, 8], kb := [] }),
 (3, { ops := [], kt := [6, 7, 8, 9, 10, 11, 12, 13, 14, 15, 16, 17, 18, 19], kb := [] }),
 (4, { ops := [(5, { mr := [3] })], kt := [12, 13, 14, 15, 16, 17], kb := [] }),
 (5, { ops := [], kt := [19], kb := [] })]
def c_pref12_Find (F : Nat → FuncId) : AFun := { nparams := 2, ntmps := 20, results := [.tmp 4], body :=
 (.seq
 (.reg [⟨(some 3), [], [.t 1], [], [3], .box, none⟩,
 ⟨(some 4), [], [.c (.int .i64 0)], [], [], .cp, none⟩] [] [])
 (.seq
 (.seq
 (.reg [⟨(some 5), [], [.c (.int .i64 0)], [], [], .cp, none⟩] [] [])
 (.block 0
 (.loop
 (.seq
 (.seq
 (.reg [⟨(some 6), [], [.t 5], [], [], .cp, none⟩,
 ⟨(some 7), [], [.t 0], [], [], .cp, none⟩,
 ⟨(some 8), [], [.t 7], [], [], .len false, none⟩,
 ⟨(some 9), [], [.t 6, .t 8], [], [], .bini .lss, none⟩] [6, 7, 8] [])
 (.cond (.t 9)
 .skip
 (.exit 0)))
 (.seq
 (.block 1
 (.seq
 (.reg [⟨(some 12), [], [.t 0], [], [], .cp, none⟩,
 ⟨(some 13), [], [.t 5], [], [], .cp, none⟩,
 ⟨(some 14), [], [.t 12, .t 13], [], [], .iaddr none 6, none⟩,
 ⟨(some 15), [], [.t 14], [], [], .faddr 0, none⟩,
 ⟨(some 16), [], [.t 15], [], [], .load true 2, none⟩,
 ⟨(some 17), [], [.t 3], [3], [], .load true 2, none⟩,
 ⟨(some 18), [], [.t 16, .t 17], [], [], .eqa [.i, .i] false, none⟩] [12, 13, 14, 15, 16, 17] [])
 (.cond (.t 18)
 (.seq
 (.reg [⟨(some 19), [], [.t 5], [], [], .cp, none⟩,
 ⟨(some 4), [19], [.t 19], [], [], .mv, none⟩] [19] [])
 .ret)
 .skip)))
 (.reg [⟨(some 10), [], [.t 5], [], [], .cp, none⟩,
 ⟨(some 11), [], [.t 10, .c (.int .i64 1)], [], [], .bini .add, none⟩,
 ⟨(some 5), [11], [.t 11], [], [], .mv, none⟩] [6, 7, 8, 9, 10, 11, 12, 13, 14, 15, 16, 17, 18, 19] []))))))
 (.seq
 (.reg [⟨(some 4), [], [.c (.int .i64 (-1))], [], [], .cp, none⟩] [] [])
 .ret))) }

def H_pref12_Good : Hints := [(1, { ops := [], kt := [6, 7, 8, 9, 10, 11, 12, 13], kb := [] }),
 (4, { ops := [], kt := [15, 16, 17], kb := [] }),
 (5, { ops := [], kt := [15, 16, 17, 18, 19, 20, 21, 22, 23, 24, 25, 26, 27, 28, 29, 30, 31, 32, 33, 34], kb := [] }),
 (6, { ops := [], kt := [21, 22, 23, 24, 25, 26, 27, 28, 29, 30, 31, 32, 33], kb := [] })]
def c_pref12_Good (F : Nat → FuncId) : AFun := { nparams := 2, ntmps := 35, results := [.tmp 4], body :=
 (.seq
 (.reg [⟨(some 4), [], [.c (.bool false)], [], [], .cp, none⟩] [] [])
 (.seq
 (.seq
 (.reg [⟨(some 6), [], [.t 0], [], [], .cp, none⟩,
 ⟨(some 7), [], [.t 6], [], [], .len false, none⟩,
 ⟨(some 8), [], [.t 1], [], [], .cp, none⟩,
 ⟨(some 9), [], [.t 7, .t 8], [], [], .bini .gtr, none⟩,
 ⟨(some 10), [], [.t 9], [], [], .cp, none⟩,
 ⟨(some 11), [], [.t 0], [], [], .cp, some (10, false)⟩,
 ⟨(some 12), [], [.c (.fn (F n_pref12_Rises)), .t 11], [], [], .call 0 false, some (10, false)⟩,
 ⟨(some 13), [], [.t 12], [], [], .not, some (10, false)⟩,
 ⟨(some 14), [], [.t 10, .c (.bool true), .t 13], [], [], .pick, none⟩] [6, 7, 8, 9, 10, 11, 12, 13] [])
 (.cond (.t 14)
 (.seq
 (.reg [⟨(some 4), [], [.c (.bool false)], [], [], .cp, none⟩] [] [])
 .ret)
 .skip))
 (.seq
 (.seq
 (.reg [⟨(some 5), [], [.c (.int .i64 0)], [], [], .cp, none⟩] [] [])
 (.block 0
 (.loop
 (.seq
 (.seq
 (.reg [⟨(some 15), [], [.t 5], [], [], .cp, none⟩,
 ⟨(some 16), [], [.t 0], [], [], .cp, none⟩,
 ⟨(some 17), [], [.t 16], [], [], .len false, none⟩,
 ⟨(some 18), [], [.t 15, .t 17], [], [], .bini .lss, none⟩] [15, 16, 17] [])
 (.cond (.t 18)
 .skip
 (.exit 0)))
 (.seq
 (.block 1
 (.seq
 (.reg [⟨(some 21), [], [.t 0], [], [], .cp, none⟩,
 ⟨(some 22), [], [.t 5], [], [], .cp, none⟩,
 ⟨(some 23), [], [.t 21, .t 22], [], [], .iaddr none 6, none⟩,
 ⟨(some 24), [], [.t 23], [], [], .load true 6, none⟩,
 ⟨(some 25), [], [.c (.fn (F n_pref12_Short)), .t 24], [], [], .call 0 false, none⟩,
 ⟨(some 26), [], [.t 25], [], [], .not, none⟩,
 ⟨(some 27), [], [.t 26], [], [], .cp, none⟩,
 ⟨(some 28), [], [.t 0], [], [], .cp, some (27, false)⟩,
 ⟨(some 29), [], [.t 5], [], [], .cp, some (27, false)⟩,
 ⟨(some 30), [], [.t 28, .t 29], [], [], .iaddr none 6, some (27, false)⟩,
 ⟨(some 31), [], [.t 30], [], [], .load true 6, some (27, false)⟩,
 ⟨(some 32), [], [.c (.fn (F n_pref12_Check)), .t 31], [], [], .call 0 false, some (27, false)⟩,
 ⟨(some 33), [], [.t 32, .c (.int .i64 0)], [], [], .bini .neq, some (27, false)⟩,
 ⟨(some 34), [], [.t 27, .c (.bool true), .t 33], [], [], .pick, none⟩] [21, 22, 23, 24, 25, 26, 27, 28, 29, 30, 31, 32, 33] [])
 (.cond (.t 34)
 (.seq
 (.reg [⟨(some 4), [], [.c (.bool false)], [], [], .cp, none⟩] [] [])
 .ret)
 .skip)))
 (.reg [⟨(some 19), [], [.t 5], [], [], .cp, none⟩,
 ⟨(some 20), [], [.t 19, .c (.int .i64 1)], [], [], .bini .add, none⟩,
 ⟨(some 5), [20], [.t 20], [], [], .mv, none⟩] [15, 16, 17, 18, 19, 20, 21, 22, 23, 24, 25, 26, 27, 28, 29, 30, 31, 32, 33, 34] []))))))
 (.seq
 (.reg [⟨(some 4), [], [.c (.bool true)], [], [], .cp, none⟩] [] [])
 .ret)))) }

def H_slices_BinarySearchFunc_api_Txn_api_Txn_api_Dot : Hints := [(1, { ops := [], kt := [12, 13], kb := [] }),
 (2, { ops := [], kt := [14], kb := [] }),
 (3, { ops := [], kt := [15, 16], kb := [] }),
 (4, { ops := [], kt := [18, 19, 20, 21, 22, 23], kb := [] }),
 (5, { ops := [(5, { mr := [4] })], kt := [24, 25, 26, 27, 28, 29, 30], kb := [] }),
 (6, { ops := [], kt := [32, 33], kb := [] }),
 (7, { ops := [], kt := [34], kb := [] }),
 (8, { ops := [(10, { mr := [4] })], kt := [35, 36, 37, 38, 39, 40, 41, 42, 43, 44, 45, 46, 47, 48], kb := [] }),
 (1000001, { ops := [], kt := [11, 15, 16, 17, 18, 19, 20, 21, 22, 23, 24, 25, 26, 27, 28, 29, 30, 31, 32, 33, 34], kb := [] })]
def c_slices_BinarySearchFunc_api_Txn_api_Txn_api_Dot (F : Nat → FuncId) : AFun := { nparams := 3, ntmps := 49, results := [.tmp 6, .tmp 7], body :=
 (.seq
 (.reg [⟨(some 4), [], [.t 1], [], [4], .box, none⟩,
 ⟨(some 6), [], [.c (.int .i64 0)], [], [], .cp, none⟩,
 ⟨(some 7), [], [.c (.bool false)], [], [], .cp, none⟩] [] [])
 (.seq
 (.reg [⟨(some 12), [], [.t 0], [], [], .cp, none⟩,
 ⟨(some 13), [], [.t 12], [], [], .len false, none⟩,
 ⟨(some 8), [13], [.t 13], [], [], .mv, none⟩] [12, 13] [])
 (.seq
 (.reg [⟨(some 14), [], [.t 8], [], [], .cp, none⟩,
 ⟨(some 9), [], [.c (.int .i64 0)], [], [], .cp, none⟩,
 ⟨(some 10), [14], [.t 14], [], [], .mv, none⟩] [14] [])
 (.seq
 (.block 0
 (.loop
 (.seq
 (.seq
 (.reg [⟨(some 15), [], [.t 9], [], [], .cp, none⟩,
 ⟨(some 16), [], [.t 10], [], [], .cp, none⟩,
 ⟨(some 17), [], [.t 15, .t 16], [], [], .bini .lss, none⟩] [15, 16] [])
 (.cond (.t 17)
 .skip
 (.exit 0)))
 (.seq
 (.block 1
 (.seq
 (.reg [⟨(some 18), [], [.t 9], [], [], .cp, none⟩,
 ⟨(some 19), [], [.t 10], [], [], .cp, none⟩,
 ⟨(some 20), [], [.t 18, .t 19], [], [], .bini .add, none⟩,
 ⟨(some 21), [], [.t 20], [], [], .conv .u64, none⟩,
 ⟨(some 22), [], [.t 21, .c (.int .u64 1)], [], [], .bini .shr, none⟩,
 ⟨(some 23), [], [.t 22], [], [], .conv .i64, none⟩,
 ⟨(some 11), [23], [.t 23], [], [], .mv, none⟩] [18, 19, 20, 21, 22, 23] [])
 (.seq
 (.reg [⟨(some 24), [], [.t 2], [], [], .cp, none⟩,
 ⟨(some 25), [], [.t 0], [], [], .cp, none⟩,
 ⟨(some 26), [], [.t 11], [], [], .cp, none⟩,
 ⟨(some 27), [], [.t 25, .t 26], [], [], .iaddr none 6, none⟩,
 ⟨(some 28), [], [.t 27], [], [], .load true 6, none⟩,
 ⟨(some 29), [], [.t 4], [4], [], .load true 2, none⟩,
 ⟨(some 30), [], [.t 24, .t 28, .t 29], [], [], .call 0 false, none⟩,
 ⟨(some 31), [], [.t 30, .c (.int .i64 0)], [], [], .bini .lss, none⟩] [24, 25, 26, 27, 28, 29, 30] [])
 (.cond (.t 31)
 (.reg [⟨(some 32), [], [.t 11], [], [], .cp, none⟩,
 ⟨(some 33), [], [.t 32, .c (.int .i64 1)], [], [], .bini .add, none⟩,
 ⟨(some 9), [33], [.t 33], [], [], .mv, none⟩] [32, 33] [])
 (.reg [⟨(some 34), [], [.t 11], [], [], .cp, none⟩,
 ⟨(some 10), [34], [.t 34], [], [], .mv, none⟩] [34] [])))))
 (.reg [] [11, 15, 16, 17, 18, 19, 20, 21, 22, 23, 24, 25, 26, 27, 28, 29, 30, 31, 32, 33, 34] [])))))
 (.seq
 (.reg [⟨(some 35), [], [.t 9], [], [], .cp, none⟩,
 ⟨(some 36), [], [.t 9], [], [], .cp, none⟩,
 ⟨(some 37), [], [.t 8], [], [], .cp, none⟩,
 ⟨(some 38), [], [.t 36, .t 37], [], [], .bini .lss, none⟩,
 ⟨(some 39), [], [.t 38], [], [], .cp, none⟩,
 ⟨(some 40), [], [.t 2], [], [], .cp, some (39, true)⟩,
 ⟨(some 41), [], [.t 0], [], [], .cp, some (39, true)⟩,
 ⟨(some 42), [], [.t 9], [], [], .cp, some (39, true)⟩,
 ⟨(some 43), [], [.t 41, .t 42], [], [], .iaddr none 6, some (39, true)⟩,
 ⟨(some 44), [], [.t 43], [], [], .load true 6, some (39, true)⟩,
 ⟨(some 45), [], [.t 4], [4], [], .load true 2, some (39, true)⟩,
 ⟨(some 46), [], [.t 40, .t 44, .t 45], [], [], .call 0 false, some (39, true)⟩,
 ⟨(some 47), [], [.t 46, .c (.int .i64 0)], [], [], .bini .eql, some (39, true)⟩,
 ⟨(some 48), [], [.t 39, .t 47, .c (.bool false)], [], [], .pick, none⟩,
 ⟨(some 6), [35], [.t 35], [], [], .mv, none⟩,
 ⟨(some 7), [48], [.t 48], [], [], .mv, none⟩] [35, 36, 37, 38, 39, 40, 41, 42, 43, 44, 45, 46, 47, 48] [])
 .ret))))) }

def H_txn_Put_1 : Hints := [(1, { ops := [(1, { mr := [2] }), (2, { mr := [3] })], kt := [5, 6, 7, 8], kb := [] })]
def c_txn_Put_1 (F : Nat → FuncId) : AFun := { nparams := 2, ntmps := 9, results := [.tmp 4], body :=
 (.seq
 (.reg [⟨(some 2), [], [.t 0], [], [2], .box, none⟩,
 ⟨(some 3), [], [.t 1], [], [3], .box, none⟩,
 ⟨(some 4), [], [.c (.int .i64 0)], [], [], .cp, none⟩] [] [])
 (.seq
 (.reg [⟨(some 5), [], [.t 2], [], [], .faddr 0, none⟩,
 ⟨(some 6), [], [.t 5], [2], [], .load true 2, none⟩,
 ⟨(some 7), [], [.t 3], [3], [], .load true 2, none⟩,
 ⟨(some 8), [], [.c (.fn (F n_dot_Compare)), .t 6, .t 7], [], [], .call 0 false, none⟩,
 ⟨(some 4), [8], [.t 8], [], [], .mv, none⟩] [5, 6, 7, 8] [])
 .ret)) }

def H_slices_Clone_api_Txn_api_Txn : Hints := [(0, { ops := [(0, { x := 4 })], kt := [], kb := [] }),
 (1, { ops := [], kt := [3], kb := [] }),
 (2, { ops := [(0, { x := 1 })], kt := [], kb := [] }),
 (3, { ops := [(0, { x := 2 }), (2, { x := 1 })], kt := [5, 6, 7], kb := [] })]
def c_slices_Clone_api_Txn_api_Txn (F : Nat → FuncId) : AFun := { nparams := 1, ntmps := 8, results := [.tmp 2], body :=
 (.seq
 (.reg [⟨(some 2), [], [.c (.sl 6 [])], [], [], .cp, none⟩] [] [])
 (.seq
 (.seq
 (.reg [⟨(some 3), [], [.t 0], [], [], .cp, none⟩,
 ⟨(some 4), [], [.t 3], [], [], .eqsl false, none⟩] [3] [])
 (.cond (.t 4)
 (.seq
 (.reg [⟨(some 2), [], [], [], [], .nilsx 6, none⟩] [] [])
 .ret)
 .skip))
 (.seq
 (.reg [⟨(some 5), [], [], [], [], .nilsx 6, none⟩,
 ⟨(some 6), [], [.t 0], [], [], .cp, none⟩,
 ⟨(some 7), [5], [.t 5, .t 6], [], [], .appendx 6 64, none⟩,
 ⟨(some 2), [7], [.t 7], [], [], .mv, none⟩] [5, 6, 7] [])
 .ret))) }

end Go.AR

/-! Counts of dots: rows that are made. -/
namespace Go.AR
open Go
section
variable {C : CallRel} {F : Nat → FuncId}
/-- How long a row becomes: by one at the most. -/
theorem pFold_len (u : Ud) : ∀ (l : List Ud) (st : List Ud × Bool), (l.foldl (pStep u) st).1.length ≤ st.1.length + l.length + (if st.2 then 0 else 1) ∧ ((l.foldl (pStep u) st).2 = false → (l.foldl (pStep u) st).1.length ≤ st.1.length + l.length)
  | [], st => by simp
  | x :: l, st => by
    obtain ⟨h1, h2⟩ := pFold_len u l (pStep u st x)
    have key : (pStep u st x).1.length + (if (pStep u st x).2 then 0 else 1) ≤ st.1.length + 1 + (if st.2 then 0 else 1) ∧ ((pStep u st x).2 = false → (pStep u st x).1.length ≤ st.1.length + 1) := by
      obtain ⟨o, ld⟩ := st
      unfold pStep
      cases ld <;> by_cases c : dcmp u.1 x.1 ≤ 0 <;> by_cases c0 : dcmp u.1 x.1 = 0 <;> simp [c, c0]
    simp only [List.foldl_cons, List.length_cons]
    refine ⟨by omega, fun h => ?_⟩
    have h3 := h2 h
    by_cases hq : (pStep u st x).2 = false
    · have := key.2 hq; omega
    · -- what is laid stays laid
      exfalso
      have stay : ∀ (l : List Ud) (st : List Ud × Bool), st.2 = true → (l.foldl (pStep u) st).2 = true := by
        intro l
        induction l with
        | nil => intro st h; exact h
        | cons y l ih =>
          intro st h
          rw [List.foldl_cons]
          apply ih
          obtain ⟨o, ld⟩ := st
          simp only at h
          subst h
          unfold pStep
          simp only [Bool.not_true, Bool.false_and, Bool.false_eq_true, if_false]
          split <;> rfl
      have := stay l _ (by simpa using hq)
      rw [this] at h; cases h
theorem rPut_len (l : List Ud) (u : Ud) : (rPut l u).length ≤ l.length + 1 := by
  unfold rPut
  split
  · omega
  · obtain ⟨h1, h2⟩ := pFold_len u l ([], false)
    simp only [List.length_nil, Nat.zero_add, Bool.false_eq_true, if_false] at h1 h2
    simp only
    split
    · exact h1
    · rename_i hq
      rw [List.length_append]
      have := h2 (by simpa using hq)
      simp; omega
end
end Go.AR
