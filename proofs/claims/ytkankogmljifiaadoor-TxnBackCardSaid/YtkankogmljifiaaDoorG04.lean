import Derived.Test.YtkankogmljifiaaDoorG02
import Derived.Test.YtkankogmljifiaaDoorG03
set_option linter.all false
/-! Codes, printed by program. -/
namespace Go.AR
def H_pref11_Short : Hints := [(1, { ops := [(1, { mr := [1] }), (6, { mr := [1] }), (12, { mr := [1] })], kt := [3, 4, 5, 6, 7, 8, 9, 10, 11, 12, 13, 14, 15, 16, 17, 18], kb := [] })]
def c_pref11_Short (F : Nat → FuncId) : AFun := { nparams := 1, ntmps := 19, results := [.tmp 2], body :=
 (.seq
 (.reg [⟨(some 1), [], [.t 0], [], [1], .box, none⟩,
 ⟨(some 2), [], [.c (.bool false)], [], [], .cp, none⟩] [] [])
 (.seq
 (.reg [⟨(some 3), [], [.t 1], [], [], .faddr 1, none⟩,
 ⟨(some 4), [], [.t 3], [1], [], .load false 1, none⟩,
 ⟨(some 5), [], [.c (.fn (F n_pref10_Short)), .t 4], [], [], .call 0 false, none⟩,
 ⟨(some 6), [], [.t 5], [], [], .cp, none⟩,
 ⟨(some 7), [], [.t 1], [], [], .faddr 2, some (6, true)⟩,
 ⟨(some 8), [], [.t 7], [], [], .faddr 2, some (6, true)⟩,
 ⟨(some 9), [], [.t 8], [1], [], .load false 1, some (6, true)⟩,
 ⟨(some 10), [], [.t 9], [], [], .len true, some (6, true)⟩,
 ⟨(some 11), [], [.t 10, .c (.int .i64 200)], [], [], .bini .leq, some (6, true)⟩,
 ⟨(some 12), [], [.t 6, .t 11, .c (.bool false)], [], [], .pick, none⟩,
 ⟨(some 13), [], [.t 12], [], [], .cp, none⟩,
 ⟨(some 14), [], [.t 1], [], [], .faddr 6, some (13, true)⟩,
 ⟨(some 15), [], [.t 14], [1], [], .load false 1, some (13, true)⟩,
 ⟨(some 16), [], [.t 15], [], [], .len false, some (13, true)⟩,
 ⟨(some 17), [], [.t 16, .c (.int .i64 300)], [], [], .bini .leq, some (13, true)⟩,
 ⟨(some 18), [], [.t 13, .t 17, .c (.bool false)], [], [], .pick, none⟩,
 ⟨(some 2), [18], [.t 18], [], [], .mv, none⟩] [3, 4, 5, 6, 7, 8, 9, 10, 11, 12, 13, 14, 15, 16, 17, 18] [])
 .ret)) }

def H_pref11_Check : Hints := [(1, { ops := [(1, { mr := [1] }), (5, { mr := [1] })], kt := [5, 6, 7, 8, 9, 10, 11], kb := [] }),
 (3, { ops := [(1, { mr := [1] })], kt := [13, 14, 15], kb := [] }),
 (4, { ops := [], kt := [16], kb := [] }),
 (5, { ops := [], kt := [18], kb := [] }),
 (6, { ops := [(2, { mw := [4] })], kt := [19], kb := [] }),
 (7, { ops := [(1, { mr := [1] }), (5, { mr := [1] }), (10, { mr := [1] }), (11, { mr := [4] })], kt := [20, 21, 22, 23, 24, 25, 26, 27, 28, 29, 30, 31, 32], kb := [] }),
 (9, { ops := [(1, { mr := [1] }), (5, { mr := [1] }), (10, { mr := [1] })], kt := [34, 35, 36, 37, 38, 39, 40, 41, 42, 43, 44, 45, 46], kb := [] }),
 (11, { ops := [(1, { mr := [1] }), (5, { mr := [1] }), (10, { mr := [1] }), (14, { mr := [1] }), (18, { mr := [1] }), (23, { mr := [1] })], kt := [48, 49, 50, 51, 52, 53, 54, 55, 56, 57, 58, 59, 60, 61, 62, 63, 64, 65, 66, 67, 68, 69, 70, 71, 72, 73, 74], kb := [] }),
 (13, { ops := [(1, { mr := [1] }), (5, { mr := [1] }), (10, { mr := [1] })], kt := [76, 77, 78, 79, 80, 81, 82, 83, 84, 85, 86, 87, 88], kb := [] }),
 (15, { ops := [(1, { mr := [1] })], kt := [90, 91, 92], kb := [] }),
 (17, { ops := [(1, { mr := [1] })], kt := [94, 95, 96], kb := [] })]
def c_pref11_Check (F : Nat → FuncId) : AFun := { nparams := 1, ntmps := 98, results := [.tmp 2], body :=
 (.seq
 (.reg [⟨(some 1), [], [.t 0], [], [1], .box, none⟩,
 ⟨(some 2), [], [.c (.int .i64 0)], [], [], .cp, none⟩] [] [])
 (.seq
 (.seq
 (.reg [⟨(some 5), [], [.t 1], [], [], .faddr 0, none⟩,
 ⟨(some 6), [], [.t 5], [1], [], .load false 1, none⟩,
 ⟨(some 7), [], [.t 6, .c (.int .i64 1)], [], [], .bini .lss, none⟩,
 ⟨(some 8), [], [.t 7], [], [], .cp, none⟩,
 ⟨(some 9), [], [.t 1], [], [], .faddr 0, some (8, false)⟩,
 ⟨(some 10), [], [.t 9], [1], [], .load false 1, some (8, false)⟩,
 ⟨(some 11), [], [.t 10, .c (.int .i64 5)], [], [], .bini .gtr, some (8, false)⟩,
 ⟨(some 12), [], [.t 8, .c (.bool true), .t 11], [], [], .pick, none⟩] [5, 6, 7, 8, 9, 10, 11] [])
 (.cond (.t 12)
 (.seq
 (.reg [⟨(some 2), [], [.c (.int .i64 18)], [], [], .cp, none⟩] [] [])
 .ret)
 .skip))
 (.seq
 (.reg [⟨(some 13), [], [.t 1], [], [], .faddr 1, none⟩,
 ⟨(some 14), [], [.t 13], [1], [], .load false 1, none⟩,
 ⟨(some 15), [], [.c (.fn (F n_pref10_Check)), .t 14], [], [], .call 0 false, none⟩,
 ⟨(some 3), [15], [.t 15], [], [], .mv, none⟩] [13, 14, 15] [])
 (.seq
 (.seq
 (.reg [⟨(some 16), [], [.t 3], [], [], .cp, none⟩,
 ⟨(some 17), [], [.t 16, .c (.int .i64 0)], [], [], .bini .neq, none⟩] [16] [])
 (.cond (.t 17)
 (.seq
 (.reg [⟨(some 18), [], [.t 3], [], [], .cp, none⟩,
 ⟨(some 2), [18], [.t 18], [], [], .mv, none⟩] [18] [])
 .ret)
 .skip))
 (.seq
 (.reg [⟨(some 19), [], [], [], [], .build [.int .i64 0, .int .i64 0, .str []] [], none⟩,
 ⟨(some 4), [], [], [], [4], .alloc [.val (.int .i64 0), .val (.int .i64 0), .val (.str [])], none⟩,
 ⟨none, [19], [.t 4, .t 19], [], [4], .store true 3, none⟩] [19] [])
 (.seq
 (.seq
 (.reg [⟨(some 20), [], [.t 1], [], [], .faddr 0, none⟩,
 ⟨(some 21), [], [.t 20], [1], [], .load false 1, none⟩,
 ⟨(some 22), [], [.t 21, .c (.int .i64 3)], [], [], .bini .eql, none⟩,
 ⟨(some 23), [], [.t 22], [], [], .cp, none⟩,
 ⟨(some 24), [], [.t 1], [], [], .faddr 0, some (23, false)⟩,
 ⟨(some 25), [], [.t 24], [1], [], .load false 1, some (23, false)⟩,
 ⟨(some 26), [], [.t 25, .c (.int .i64 5)], [], [], .bini .eql, some (23, false)⟩,
 ⟨(some 27), [], [.t 23, .c (.bool true), .t 26], [], [], .pick, none⟩,
 ⟨(some 28), [], [.t 27], [], [], .cp, none⟩,
 ⟨(some 29), [], [.t 1], [], [], .faddr 2, some (28, true)⟩,
 ⟨(some 30), [], [.t 29], [1], [], .load true 3, some (28, true)⟩,
 ⟨(some 31), [], [.t 4], [4], [], .load true 3, some (28, true)⟩,
 ⟨(some 32), [], [.t 30, .t 31], [], [], .eqa [.i, .i, .s] true, some (28, true)⟩,
 ⟨(some 33), [], [.t 28, .t 32, .c (.bool false)], [], [], .pick, none⟩] [20, 21, 22, 23, 24, 25, 26, 27, 28, 29, 30, 31, 32] [])
 (.cond (.t 33)
 (.seq
 (.reg [⟨(some 2), [], [.c (.int .i64 2)], [], [], .cp, none⟩] [] [])
 .ret)
 .skip))
 (.seq
 (.seq
 (.reg [⟨(some 34), [], [.t 1], [], [], .faddr 0, none⟩,
 ⟨(some 35), [], [.t 34], [1], [], .load false 1, none⟩,
 ⟨(some 36), [], [.t 35, .c (.int .i64 3)], [], [], .bini .neq, none⟩,
 ⟨(some 37), [], [.t 36], [], [], .cp, none⟩,
 ⟨(some 38), [], [.t 1], [], [], .faddr 0, some (37, true)⟩,
 ⟨(some 39), [], [.t 38], [1], [], .load false 1, some (37, true)⟩,
 ⟨(some 40), [], [.t 39, .c (.int .i64 5)], [], [], .bini .neq, some (37, true)⟩,
 ⟨(some 41), [], [.t 37, .t 40, .c (.bool false)], [], [], .pick, none⟩,
 ⟨(some 42), [], [.t 41], [], [], .cp, none⟩,
 ⟨(some 43), [], [.t 1], [], [], .faddr 2, some (42, true)⟩,
 ⟨(some 44), [], [.t 43], [1], [], .load true 3, some (42, true)⟩,
 ⟨(some 45), [], [.c (.fn (F n_pref09_Right)), .t 44], [], [], .call 0 false, some (42, true)⟩,
 ⟨(some 46), [], [.t 45], [], [], .not, some (42, true)⟩,
 ⟨(some 47), [], [.t 42, .t 46, .c (.bool false)], [], [], .pick, none⟩] [34, 35, 36, 37, 38, 39, 40, 41, 42, 43, 44, 45, 46] [])
 (.cond (.t 47)
 (.seq
 (.reg [⟨(some 2), [], [.c (.int .i64 2)], [], [], .cp, none⟩] [] [])
 .ret)
 .skip))
 (.seq
 (.seq
 (.reg [⟨(some 48), [], [.t 1], [], [], .faddr 0, none⟩,
 ⟨(some 49), [], [.t 48], [1], [], .load false 1, none⟩,
 ⟨(some 50), [], [.t 49, .c (.int .i64 3)], [], [], .bini .neq, none⟩,
 ⟨(some 51), [], [.t 50], [], [], .cp, none⟩,
 ⟨(some 52), [], [.t 1], [], [], .faddr 5, some (51, true)⟩,
 ⟨(some 53), [], [.t 52], [1], [], .load false 1, some (51, true)⟩,
 ⟨(some 54), [], [.t 53, .c (.int .i64 0)], [], [], .bini .neq, some (51, true)⟩,
 ⟨(some 55), [], [.t 51, .t 54, .c (.bool false)], [], [], .pick, none⟩,
 ⟨(some 56), [], [.t 55], [], [], .cp, none⟩,
 ⟨(some 57), [], [.t 1], [], [], .faddr 0, some (56, false)⟩,
 ⟨(some 58), [], [.t 57], [1], [], .load false 1, some (56, false)⟩,
 ⟨(some 59), [], [.t 58, .c (.int .i64 3)], [], [], .bini .eql, some (56, false)⟩,
 ⟨(some 60), [], [.t 59], [], [], .cp, some (56, false)⟩,
 ⟨(some 61), [], [.t 1], [], [], .faddr 5, some (60, true)⟩,
 ⟨(some 62), [], [.t 61], [1], [], .load false 1, some (60, true)⟩,
 ⟨(some 63), [], [.t 62, .c (.int .i64 0)], [], [], .bini .eql, some (60, true)⟩,
 ⟨(some 64), [], [.t 63], [], [], .cp, some (60, true)⟩,
 ⟨(some 65), [], [.t 1], [], [], .faddr 5, some (64, false)⟩,
 ⟨(some 66), [], [.t 65], [1], [], .load false 1, some (64, false)⟩,
 ⟨(some 67), [], [.t 66, .c (.int .i64 2147483647)], [], [], .bini .gtr, some (64, false)⟩,
 ⟨(some 68), [], [.t 64, .c (.bool true), .t 67], [], [], .pick, some (60, true)⟩,
 ⟨(some 69), [], [.t 68], [], [], .cp, some (60, true)⟩,
 ⟨(some 70), [], [.t 1], [], [], .faddr 5, some (69, false)⟩,
 ⟨(some 71), [], [.t 70], [1], [], .load false 1, some (69, false)⟩,
 ⟨(some 72), [], [.t 71, .c (.int .i64 (-2147483647))], [], [], .bini .lss, some (69, false)⟩,
 ⟨(some 73), [], [.t 69, .c (.bool true), .t 72], [], [], .pick, some (60, true)⟩,
 ⟨(some 74), [], [.t 60, .t 73, .c (.bool false)], [], [], .pick, some (56, false)⟩,
 ⟨(some 75), [], [.t 56, .c (.bool true), .t 74], [], [], .pick, none⟩] [48, 49, 50, 51, 52, 53, 54, 55, 56, 57, 58, 59, 60, 61, 62, 63, 64, 65, 66, 67, 68, 69, 70, 71, 72, 73, 74] [])
 (.cond (.t 75)
 (.seq
 (.reg [⟨(some 2), [], [.c (.int .i64 2)], [], [], .cp, none⟩] [] [])
 .ret)
 .skip))
 (.seq
 (.seq
 (.reg [⟨(some 76), [], [.t 1], [], [], .faddr 0, none⟩,
 ⟨(some 77), [], [.t 76], [1], [], .load false 1, none⟩,
 ⟨(some 78), [], [.t 77, .c (.int .i64 2)], [], [], .bini .eql, none⟩,
 ⟨(some 79), [], [.t 78], [], [], .cp, none⟩,
 ⟨(some 80), [], [.t 1], [], [], .faddr 0, some (79, false)⟩,
 ⟨(some 81), [], [.t 80], [1], [], .load false 1, some (79, false)⟩,
 ⟨(some 82), [], [.t 81, .c (.int .i64 3)], [], [], .bini .eql, some (79, false)⟩,
 ⟨(some 83), [], [.t 79, .c (.bool true), .t 82], [], [], .pick, none⟩,
 ⟨(some 84), [], [.t 83], [], [], .cp, none⟩,
 ⟨(some 85), [], [.t 1], [], [], .faddr 6, some (84, true)⟩,
 ⟨(some 86), [], [.t 85], [1], [], .load false 1, some (84, true)⟩,
 ⟨(some 87), [], [.t 86], [], [], .len false, some (84, true)⟩,
 ⟨(some 88), [], [.t 87, .c (.int .i64 0)], [], [], .bini .gtr, some (84, true)⟩,
 ⟨(some 89), [], [.t 84, .t 88, .c (.bool false)], [], [], .pick, none⟩] [76, 77, 78, 79, 80, 81, 82, 83, 84, 85, 86, 87, 88] [])
 (.cond (.t 89)
 (.seq
 (.reg [⟨(some 2), [], [.c (.int .i64 2)], [], [], .cp, none⟩] [] [])
 .ret)
 .skip))
 (.seq
 (.seq
 (.reg [⟨(some 90), [], [.t 1], [], [], .faddr 6, none⟩,
 ⟨(some 91), [], [.t 90], [1], [], .load false 1, none⟩,
 ⟨(some 92), [], [.t 91], [], [], .len false, none⟩,
 ⟨(some 93), [], [.t 92, .c (.int .i64 256)], [], [], .bini .gtr, none⟩] [90, 91, 92] [])
 (.cond (.t 93)
 (.seq
 (.reg [⟨(some 2), [], [.c (.int .i64 7)], [], [], .cp, none⟩] [] [])
 .ret)
 .skip))
 (.seq
 (.seq
 (.reg [⟨(some 94), [], [.t 1], [], [], .faddr 6, none⟩,
 ⟨(some 95), [], [.t 94], [1], [], .load false 1, none⟩,
 ⟨(some 96), [], [.c (.fn (F n_pref11_Refs)), .t 95], [], [], .call 0 false, none⟩,
 ⟨(some 97), [], [.t 96], [], [], .not, none⟩] [94, 95, 96] [])
 (.cond (.t 97)
 (.seq
 (.reg [⟨(some 2), [], [.c (.int .i64 2)], [], [], .cp, none⟩] [] [])
 .ret)
 .skip))
 (.seq
 (.reg [⟨(some 2), [], [.c (.int .i64 0)], [], [], .cp, none⟩] [] [])
 .ret)))))))))))) }

def H_op_Check : Hints := [(1, { ops := [(1, { mr := [1] }), (5, { mr := [1] })], kt := [5, 6, 7, 8, 9, 10, 11], kb := [] }),
 (3, { ops := [(1, { mr := [1] })], kt := [13, 14, 15], kb := [] }),
 (4, { ops := [], kt := [16], kb := [] }),
 (5, { ops := [], kt := [18], kb := [] }),
 (6, { ops := [(1, { mr := [1] }), (5, { mr := [1] }), (10, { mr := [1] })], kt := [19, 20, 21, 22, 23, 24, 25, 26, 27, 28, 29, 30, 31], kb := [] }),
 (7, { ops := [(0, { mr := [1] })], kt := [33, 34, 35], kb := [] }),
 (8, { ops := [(0, { mr := [1] })], kt := [36, 37, 38], kb := [] }),
 (9, { ops := [(4, { mr := [1] })], kt := [39, 40, 41, 42, 43, 44, 45, 46], kb := [] }),
 (11, { ops := [(1, { mr := [1] })], kt := [48, 49, 50, 51], kb := [] }),
 (13, { ops := [(1, { mr := [1] })], kt := [53, 54, 55, 56], kb := [] })]
def c_op_Check (F : Nat → FuncId) : AFun := { nparams := 1, ntmps := 57, results := [.tmp 2], body :=
 (.seq
 (.reg [⟨(some 1), [], [.t 0], [], [1], .box, none⟩,
 ⟨(some 2), [], [.c (.int .i64 0)], [], [], .cp, none⟩] [] [])
 (.seq
 (.seq
 (.reg [⟨(some 5), [], [.t 1], [], [], .faddr 0, none⟩,
 ⟨(some 6), [], [.t 5], [1], [], .load false 1, none⟩,
 ⟨(some 7), [], [.t 6, .c (.int .i64 1)], [], [], .bini .lss, none⟩,
 ⟨(some 8), [], [.t 7], [], [], .cp, none⟩,
 ⟨(some 9), [], [.t 1], [], [], .faddr 0, some (8, false)⟩,
 ⟨(some 10), [], [.t 9], [1], [], .load false 1, some (8, false)⟩,
 ⟨(some 11), [], [.t 10, .c (.int .i64 5)], [], [], .bini .gtr, some (8, false)⟩,
 ⟨(some 12), [], [.t 8, .c (.bool true), .t 11], [], [], .pick, none⟩] [5, 6, 7, 8, 9, 10, 11] [])
 (.cond (.t 12)
 (.seq
 (.reg [⟨(some 2), [], [.c (.int .i64 18)], [], [], .cp, none⟩] [] [])
 .ret)
 .skip))
 (.seq
 (.seq
 (.reg [⟨(some 13), [], [.t 1], [], [], .faddr 1, none⟩,
 ⟨(some 14), [], [.t 13], [1], [], .load false 1, none⟩,
 ⟨(some 15), [], [.c (.fn (F n_path_Check)), .t 14], [], [], .call 0 false, none⟩,
 ⟨(some 3), [15], [.t 15], [], [], .mv, none⟩] [13, 14, 15] [])
 (.seq
 (.reg [⟨(some 16), [], [.t 3], [], [], .cp, none⟩,
 ⟨(some 17), [], [.t 16, .c (.int .i64 0)], [], [], .bini .neq, none⟩] [16] [])
 (.cond (.t 17)
 (.seq
 (.reg [⟨(some 18), [], [.t 3], [], [], .cp, none⟩,
 ⟨(some 2), [18], [.t 18], [], [], .mv, none⟩] [18] [])
 .ret)
 .skip)))
 (.seq
 (.reg [⟨(some 19), [], [.t 1], [], [], .faddr 0, none⟩,
 ⟨(some 20), [], [.t 19], [1], [], .load false 1, none⟩,
 ⟨(some 21), [], [.t 20, .c (.int .i64 1)], [], [], .bini .eql, none⟩,
 ⟨(some 22), [], [.t 21], [], [], .cp, none⟩,
 ⟨(some 23), [], [.t 1], [], [], .faddr 0, some (22, false)⟩,
 ⟨(some 24), [], [.t 23], [1], [], .load false 1, some (22, false)⟩,
 ⟨(some 25), [], [.t 24, .c (.int .i64 4)], [], [], .bini .eql, some (22, false)⟩,
 ⟨(some 26), [], [.t 22, .c (.bool true), .t 25], [], [], .pick, none⟩,
 ⟨(some 27), [], [.t 26], [], [], .cp, none⟩,
 ⟨(some 28), [], [.t 1], [], [], .faddr 0, some (27, false)⟩,
 ⟨(some 29), [], [.t 28], [1], [], .load false 1, some (27, false)⟩,
 ⟨(some 30), [], [.t 29, .c (.int .i64 5)], [], [], .bini .eql, some (27, false)⟩,
 ⟨(some 31), [], [.t 27, .c (.bool true), .t 30], [], [], .pick, none⟩,
 ⟨(some 4), [31], [.t 31], [], [], .mv, none⟩] [19, 20, 21, 22, 23, 24, 25, 26, 27, 28, 29, 30, 31] [])
 (.seq
 (.block 0
 (.seq
 (.seq
 (.reg [⟨(some 33), [], [.t 1], [1], [], .load true 7, none⟩,
 ⟨(some 34), [], [.c (.fn (F n_op_valued)), .t 33], [], [], .call 0 false, none⟩,
 ⟨(some 35), [], [.t 34], [], [], .not, none⟩,
 ⟨(some 32), [35], [.t 35], [], [], .mv, none⟩] [33, 34, 35] [])
 (.cond (.t 32)
 .skip
 (.seq
 (.reg [⟨(some 36), [], [.t 1], [1], [], .load true 7, none⟩,
 ⟨(some 37), [], [.c (.fn (F n_op_amount)), .t 36], [], [], .call 0 false, none⟩,
 ⟨(some 38), [], [.t 37], [], [], .not, none⟩,
 ⟨(some 32), [38], [.t 38], [], [], .mv, none⟩] [36, 37, 38] [])
 (.cond (.t 32)
 .skip
 (.reg [⟨(some 39), [], [.t 4], [], [], .cp, none⟩,
 ⟨(some 40), [], [.t 39], [], [], .not, none⟩,
 ⟨(some 41), [], [.t 40], [], [], .cp, none⟩,
 ⟨(some 42), [], [.t 1], [], [], .faddr 6, some (41, true)⟩,
 ⟨(some 43), [], [.t 42], [1], [], .load false 1, some (41, true)⟩,
 ⟨(some 44), [], [.t 43], [], [], .len false, some (41, true)⟩,
 ⟨(some 45), [], [.t 44, .c (.int .i64 0)], [], [], .bini .gtr, some (41, true)⟩,
 ⟨(some 46), [], [.t 41, .t 45, .c (.bool false)], [], [], .pick, none⟩,
 ⟨(some 32), [46], [.t 46], [], [], .mv, none⟩] [39, 40, 41, 42, 43, 44, 45, 46] [])))))
 (.cond (.t 32)
 (.seq
 (.reg [⟨(some 2), [], [.c (.int .i64 2)], [], [], .cp, none⟩] [] [])
 .ret)
 (.seq
 (.reg [⟨(some 48), [], [.t 1], [], [], .faddr 6, none⟩,
 ⟨(some 49), [], [.t 48], [1], [], .load false 1, none⟩,
 ⟨(some 50), [], [.t 49], [], [], .len false, none⟩,
 ⟨(some 51), [], [.t 50, .c (.int .i64 256)], [], [], .bini .gtr, none⟩,
 ⟨(some 47), [51], [.t 51], [], [], .mv, none⟩] [48, 49, 50, 51] [])
 (.cond (.t 47)
 (.seq
 (.reg [⟨(some 2), [], [.c (.int .i64 7)], [], [], .cp, none⟩] [] [])
 .ret)
 (.seq
 (.reg [⟨(some 53), [], [.t 1], [], [], .faddr 6, none⟩,
 ⟨(some 54), [], [.t 53], [1], [], .load false 1, none⟩,
 ⟨(some 55), [], [.c (.fn (F n_op_Refs)), .t 54], [], [], .call 0 false, none⟩,
 ⟨(some 56), [], [.t 55], [], [], .not, none⟩,
 ⟨(some 52), [56], [.t 56], [], [], .mv, none⟩] [53, 54, 55, 56] [])
 (.cond (.t 52)
 (.seq
 (.reg [⟨(some 2), [], [.c (.int .i64 2)], [], [], .cp, none⟩] [] [])
 .ret)
 .skip)))))))
 (.seq
 (.reg [⟨(some 2), [], [.c (.int .i64 0)], [], [], .cp, none⟩] [] [])
 .ret)))))) }

def H_op_Refs : Hints := [(3, { ops := [(5, { mw := [4] })], kt := [9, 10, 11], kb := [] }),
 (4, { ops := [(1, { mr := [4] }), (6, { mr := [4] }), (11, { mr := [4] }), (23, { mr := [4] })], kt := [12, 13, 14, 15, 16, 17, 18, 19, 20, 21, 22, 23, 24, 25, 26, 27, 28, 29, 30, 31, 32, 33, 34, 35, 36, 37, 38], kb := [] }),
 (6, { ops := [], kt := [3, 4, 8, 9, 10, 11, 12, 13, 14, 15, 16, 17, 18, 19, 20, 21, 22, 23, 24, 25, 26, 27, 28, 29, 30, 31, 32, 33, 34, 35, 36, 37, 38, 39, 40], kb := [4] })]
def c_op_Refs (F : Nat → FuncId) : AFun := { nparams := 1, ntmps := 41, results := [.tmp 2], body :=
 (.seq
 (.reg [⟨(some 2), [], [.c (.bool false)], [], [], .cp, none⟩] [] [])
 (.seq
 (.seq
 (.reg [⟨(some 5), [], [.t 0], [], [], .cp, none⟩,
 ⟨(some 6), [], [.t 5], [], [], .len false, none⟩,
 ⟨(some 7), [], [.c (.int .i64 0)], [], [], .cp, none⟩] [] [])
 (.block 0
 (.loop
 (.seq
 (.reg [⟨(some 8), [], [.t 7, .t 6], [], [], .bini .lss, none⟩] [] [])
 (.seq
 (.cond (.t 8)
 .skip
 (.exit 0))
 (.seq
 (.block 1
 (.seq
 (.reg [⟨(some 9), [], [.t 7], [], [], .cp, none⟩,
 ⟨(some 10), [], [.t 5, .t 7], [], [], .iaddr none 3, none⟩,
 ⟨(some 11), [], [.t 10], [], [], .load true 3, none⟩,
 ⟨(some 4), [], [], [], [4], .alloc [.val (.int .i64 0), .val (.int .i64 0), .val (.int .i64 0)], none⟩,
 ⟨(some 3), [9], [.t 9], [], [], .mv, none⟩,
 ⟨none, [11], [.t 4, .t 11], [], [4], .store true 3, none⟩] [9, 10, 11] [])
 (.seq
 (.reg [⟨(some 12), [], [.t 4], [], [], .faddr 0, none⟩,
 ⟨(some 13), [], [.t 12], [4], [], .load true 2, none⟩,
 ⟨(some 14), [], [.c (.fn (F n_dot_Right)), .t 13], [], [], .call 0 false, none⟩,
 ⟨(some 15), [], [.t 14], [], [], .not, none⟩,
 ⟨(some 16), [], [.t 15], [], [], .cp, none⟩,
 ⟨(some 17), [], [.t 4], [], [], .faddr 2, some (16, false)⟩,
 ⟨(some 18), [], [.t 17], [4], [], .load false 1, some (16, false)⟩,
 ⟨(some 19), [], [.t 18, .c (.int .i64 0)], [], [], .bini .lss, some (16, false)⟩,
 ⟨(some 20), [], [.t 16, .c (.bool true), .t 19], [], [], .pick, none⟩,
 ⟨(some 21), [], [.t 20], [], [], .cp, none⟩,
 ⟨(some 22), [], [.t 4], [], [], .faddr 2, some (21, false)⟩,
 ⟨(some 23), [], [.t 22], [4], [], .load false 1, some (21, false)⟩,
 ⟨(some 24), [], [.t 23, .c (.int .i64 16)], [], [], .bini .geq, some (21, false)⟩,
 ⟨(some 25), [], [.t 21, .c (.bool true), .t 24], [], [], .pick, none⟩,
 ⟨(some 26), [], [.t 25], [], [], .cp, none⟩,
 ⟨(some 27), [], [.t 3], [], [], .cp, some (26, false)⟩,
 ⟨(some 28), [], [.t 27, .c (.int .i64 0)], [], [], .bini .gtr, some (26, false)⟩,
 ⟨(some 29), [], [.t 28], [], [], .cp, some (26, false)⟩,
 ⟨(some 30), [], [.t 0], [], [], .cp, some (29, true)⟩,
 ⟨(some 31), [], [.t 3], [], [], .cp, some (29, true)⟩,
 ⟨(some 32), [], [.t 31, .c (.int .i64 1)], [], [], .bini .sub, some (29, true)⟩,
 ⟨(some 33), [], [.t 30, .t 32], [], [], .iaddr none 3, some (29, true)⟩,
 ⟨(some 34), [], [.t 33], [], [], .load true 3, some (29, true)⟩,
 ⟨(some 35), [], [.t 4], [4], [], .load true 3, some (29, true)⟩,
 ⟨(some 36), [], [.c (.fn (F n_dot_Refs)), .t 34, .t 35], [], [], .call 0 false, some (29, true)⟩,
 ⟨(some 37), [], [.t 36, .c (.int .i64 0)], [], [], .bini .geq, some (29, true)⟩,
 ⟨(some 38), [], [.t 29, .t 37, .c (.bool false)], [], [], .pick, some (26, false)⟩,
 ⟨(some 39), [], [.t 26, .c (.bool true), .t 38], [], [], .pick, none⟩] [12, 13, 14, 15, 16, 17, 18, 19, 20, 21, 22, 23, 24, 25, 26, 27, 28, 29, 30, 31, 32, 33, 34, 35, 36, 37, 38] [])
 (.cond (.t 39)
 (.seq
 (.reg [⟨(some 2), [], [.c (.bool false)], [], [], .cp, none⟩] [] [])
 .ret)
 .skip))))
 (.reg [⟨(some 40), [], [.t 7, .c (.int .i64 1)], [], [], .bini .add, none⟩,
 ⟨(some 7), [], [.t 40], [], [], .cp, none⟩] [3, 4, 8, 9, 10, 11, 12, 13, 14, 15, 16, 17, 18, 19, 20, 21, 22, 23, 24, 25, 26, 27, 28, 29, 30, 31, 32, 33, 34, 35, 36, 37, 38, 39, 40] [4])))))))
 (.seq
 (.reg [⟨(some 2), [], [.c (.bool true)], [], [], .cp, none⟩] [] [])
 .ret))) }

def H_pref11_Refs : Hints := [(2, { ops := [], kt := [4, 5, 6], kb := [] }),
 (3, { ops := [], kt := [4, 5, 6, 7, 8, 9, 10, 11, 12, 13, 14, 15, 16, 17, 18, 19, 20, 21, 22, 23, 24, 25, 26, 27, 28, 29, 30, 31, 32, 33, 34, 35, 36, 37, 38, 39, 40, 41, 42, 43, 44, 45, 46, 47], kb := [] }),
 (4, { ops := [], kt := [10, 11, 12, 13, 14, 15, 16, 17, 18, 19, 20, 21, 22, 23, 24, 25, 26, 27, 28, 29, 30, 31], kb := [] }),
 (6, { ops := [], kt := [33, 34, 35, 36, 37, 38, 39, 40, 41, 42, 43, 44, 45, 46], kb := [] })]
def c_pref11_Refs (F : Nat → FuncId) : AFun := { nparams := 1, ntmps := 48, results := [.tmp 2], body :=
 (.seq
 (.reg [⟨(some 2), [], [.c (.bool false)], [], [], .cp, none⟩] [] [])
 (.seq
 (.seq
 (.reg [⟨(some 3), [], [.c (.int .i64 0)], [], [], .cp, none⟩] [] [])
 (.block 0
 (.loop
 (.seq
 (.seq
 (.reg [⟨(some 4), [], [.t 3], [], [], .cp, none⟩,
 ⟨(some 5), [], [.t 0], [], [], .cp, none⟩,
 ⟨(some 6), [], [.t 5], [], [], .len false, none⟩,
 ⟨(some 7), [], [.t 4, .t 6], [], [], .bini .lss, none⟩] [4, 5, 6] [])
 (.cond (.t 7)
 .skip
 (.exit 0)))
 (.seq
 (.block 1
 (.seq
 (.seq
 (.reg [⟨(some 10), [], [.t 0], [], [], .cp, none⟩,
 ⟨(some 11), [], [.t 3], [], [], .cp, none⟩,
 ⟨(some 12), [], [.t 10, .t 11], [], [], .iaddr none 3, none⟩,
 ⟨(some 13), [], [.t 12], [], [], .faddr 0, none⟩,
 ⟨(some 14), [], [.t 13], [], [], .load true 2, none⟩,
 ⟨(some 15), [], [.c (.fn (F n_pref04_Right)), .t 14], [], [], .call 0 false, none⟩,
 ⟨(some 16), [], [.t 15], [], [], .not, none⟩,
 ⟨(some 17), [], [.t 16], [], [], .cp, none⟩,
 ⟨(some 18), [], [.t 0], [], [], .cp, some (17, false)⟩,
 ⟨(some 19), [], [.t 3], [], [], .cp, some (17, false)⟩,
 ⟨(some 20), [], [.t 18, .t 19], [], [], .iaddr none 3, some (17, false)⟩,
 ⟨(some 21), [], [.t 20], [], [], .faddr 2, some (17, false)⟩,
 ⟨(some 22), [], [.t 21], [], [], .load false 1, some (17, false)⟩,
 ⟨(some 23), [], [.t 22, .c (.int .i64 0)], [], [], .bini .lss, some (17, false)⟩,
 ⟨(some 24), [], [.t 17, .c (.bool true), .t 23], [], [], .pick, none⟩,
 ⟨(some 25), [], [.t 24], [], [], .cp, none⟩,
 ⟨(some 26), [], [.t 0], [], [], .cp, some (25, false)⟩,
 ⟨(some 27), [], [.t 3], [], [], .cp, some (25, false)⟩,
 ⟨(some 28), [], [.t 26, .t 27], [], [], .iaddr none 3, some (25, false)⟩,
 ⟨(some 29), [], [.t 28], [], [], .faddr 2, some (25, false)⟩,
 ⟨(some 30), [], [.t 29], [], [], .load false 1, some (25, false)⟩,
 ⟨(some 31), [], [.t 30, .c (.int .i64 15)], [], [], .bini .gtr, some (25, false)⟩,
 ⟨(some 32), [], [.t 25, .c (.bool true), .t 31], [], [], .pick, none⟩] [10, 11, 12, 13, 14, 15, 16, 17, 18, 19, 20, 21, 22, 23, 24, 25, 26, 27, 28, 29, 30, 31] [])
 (.cond (.t 32)
 (.seq
 (.reg [⟨(some 2), [], [.c (.bool false)], [], [], .cp, none⟩] [] [])
 .ret)
 .skip))
 (.seq
 (.reg [⟨(some 33), [], [.t 3], [], [], .cp, none⟩,
 ⟨(some 34), [], [.t 33, .c (.int .i64 0)], [], [], .bini .gtr, none⟩,
 ⟨(some 35), [], [.t 34], [], [], .cp, none⟩,
 ⟨(some 36), [], [.t 0], [], [], .cp, some (35, true)⟩,
 ⟨(some 37), [], [.t 3], [], [], .cp, some (35, true)⟩,
 ⟨(some 38), [], [.t 37, .c (.int .i64 1)], [], [], .bini .sub, some (35, true)⟩,
 ⟨(some 39), [], [.t 36, .t 38], [], [], .iaddr none 3, some (35, true)⟩,
 ⟨(some 40), [], [.t 39], [], [], .load true 3, some (35, true)⟩,
 ⟨(some 41), [], [.t 0], [], [], .cp, some (35, true)⟩,
 ⟨(some 42), [], [.t 3], [], [], .cp, some (35, true)⟩,
 ⟨(some 43), [], [.t 41, .t 42], [], [], .iaddr none 3, some (35, true)⟩,
 ⟨(some 44), [], [.t 43], [], [], .load true 3, some (35, true)⟩,
 ⟨(some 45), [], [.c (.fn (F n_pref04_Refs)), .t 40, .t 44], [], [], .call 0 false, some (35, true)⟩,
 ⟨(some 46), [], [.t 45, .c (.int .i64 (-1))], [], [], .bini .neq, some (35, true)⟩,
 ⟨(some 47), [], [.t 35, .t 46, .c (.bool false)], [], [], .pick, none⟩] [33, 34, 35, 36, 37, 38, 39, 40, 41, 42, 43, 44, 45, 46] [])
 (.cond (.t 47)
 (.seq
 (.reg [⟨(some 2), [], [.c (.bool false)], [], [], .cp, none⟩] [] [])
 .ret)
 .skip))))
 (.reg [⟨(some 8), [], [.t 3], [], [], .cp, none⟩,
 ⟨(some 9), [], [.t 8, .c (.int .i64 1)], [], [], .bini .add, none⟩,
 ⟨(some 3), [9], [.t 9], [], [], .mv, none⟩] [4, 5, 6, 7, 8, 9, 10, 11, 12, 13, 14, 15, 16, 17, 18, 19, 20, 21, 22, 23, 24, 25, 26, 27, 28, 29, 30, 31, 32, 33, 34, 35, 36, 37, 38, 39, 40, 41, 42, 43, 44, 45, 46, 47] []))))))
 (.seq
 (.reg [⟨(some 2), [], [.c (.bool true)], [], [], .cp, none⟩] [] [])
 .ret))) }

def H_op_Same : Hints := [(1, { ops := [(1, { mr := [2] }), (3, { mr := [3] }), (7, { mr := [2] }), (9, { mr := [3] }), (14, { mr := [2] }), (16, { mr := [3] }), (21, { mr := [2] }), (23, { mr := [3] }), (28, { mr := [2] }), (30, { mr := [3] })], kt := [5, 6, 7, 8, 9, 10, 11, 12, 13, 14, 15, 16, 17, 18, 19, 20, 21, 22, 23, 24, 25, 26, 27, 28, 29, 30, 31, 32, 33, 34, 35, 36, 37], kb := [] })]
def c_op_Same (F : Nat → FuncId) : AFun := { nparams := 2, ntmps := 38, results := [.tmp 4], body :=
 (.seq
 (.reg [⟨(some 2), [], [.t 0], [], [2], .box, none⟩,
 ⟨(some 3), [], [.t 1], [], [3], .box, none⟩,
 ⟨(some 4), [], [.c (.bool false)], [], [], .cp, none⟩] [] [])
 (.seq
 (.reg [⟨(some 5), [], [.t 2], [], [], .faddr 0, none⟩,
 ⟨(some 6), [], [.t 5], [2], [], .load false 1, none⟩,
 ⟨(some 7), [], [.t 3], [], [], .faddr 0, none⟩,
 ⟨(some 8), [], [.t 7], [3], [], .load false 1, none⟩,
 ⟨(some 9), [], [.t 6, .t 8], [], [], .bini .eql, none⟩,
 ⟨(some 10), [], [.t 9], [], [], .cp, none⟩,
 ⟨(some 11), [], [.t 2], [], [], .faddr 2, some (10, true)⟩,
 ⟨(some 12), [], [.t 11], [2], [], .load true 3, some (10, true)⟩,
 ⟨(some 13), [], [.t 3], [], [], .faddr 2, some (10, true)⟩,
 ⟨(some 14), [], [.t 13], [3], [], .load true 3, some (10, true)⟩,
 ⟨(some 15), [], [.t 12, .t 14], [], [], .eqa [.i, .i, .s] false, some (10, true)⟩,
 ⟨(some 16), [], [.t 10, .t 15, .c (.bool false)], [], [], .pick, none⟩,
 ⟨(some 17), [], [.t 16], [], [], .cp, none⟩,
 ⟨(some 18), [], [.t 2], [], [], .faddr 5, some (17, true)⟩,
 ⟨(some 19), [], [.t 18], [2], [], .load false 1, some (17, true)⟩,
 ⟨(some 20), [], [.t 3], [], [], .faddr 5, some (17, true)⟩,
 ⟨(some 21), [], [.t 20], [3], [], .load false 1, some (17, true)⟩,
 ⟨(some 22), [], [.t 19, .t 21], [], [], .bini .eql, some (17, true)⟩,
 ⟨(some 23), [], [.t 17, .t 22, .c (.bool false)], [], [], .pick, none⟩,
 ⟨(some 24), [], [.t 23], [], [], .cp, none⟩,
 ⟨(some 25), [], [.t 2], [], [], .faddr 1, some (24, true)⟩,
 ⟨(some 26), [], [.t 25], [2], [], .load false 1, some (24, true)⟩,
 ⟨(some 27), [], [.t 3], [], [], .faddr 1, some (24, true)⟩,
 ⟨(some 28), [], [.t 27], [3], [], .load false 1, some (24, true)⟩,
 ⟨(some 29), [], [.c (.fn (F n_slices_Equal_string_string)), .t 26, .t 28], [], [], .call 0 false, some (24, true)⟩,
 ⟨(some 30), [], [.t 24, .t 29, .c (.bool false)], [], [], .pick, none⟩,
 ⟨(some 31), [], [.t 30], [], [], .cp, none⟩,
 ⟨(some 32), [], [.t 2], [], [], .faddr 6, some (31, true)⟩,
 ⟨(some 33), [], [.t 32], [2], [], .load false 1, some (31, true)⟩,
 ⟨(some 34), [], [.t 3], [], [], .faddr 6, some (31, true)⟩,
 ⟨(some 35), [], [.t 34], [3], [], .load false 1, some (31, true)⟩,
 ⟨(some 36), [], [.c (.fn (F n_slices_Equal_api_Ref_api_Ref)), .t 33, .t 35], [], [], .call 0 false, some (31, true)⟩,
 ⟨(some 37), [], [.t 31, .t 36, .c (.bool false)], [], [], .pick, none⟩,
 ⟨(some 4), [37], [.t 37], [], [], .mv, none⟩] [5, 6, 7, 8, 9, 10, 11, 12, 13, 14, 15, 16, 17, 18, 19, 20, 21, 22, 23, 24, 25, 26, 27, 28, 29, 30, 31, 32, 33, 34, 35, 36, 37] [])
 .ret)) }

def H_pref11_Same : Hints := [(1, { ops := [(1, { mr := [2] }), (3, { mr := [3] }), (7, { mr := [2] }), (9, { mr := [3] }), (14, { mr := [2] }), (16, { mr := [3] }), (21, { mr := [2] }), (23, { mr := [3] }), (29, { mr := [2] }), (32, { mr := [3] })], kt := [6, 7, 8, 9, 10, 11, 12, 13, 14, 15, 16, 17, 18, 19, 20, 21, 22, 23, 24, 25, 26, 27, 28, 29, 30, 31, 32, 33, 34, 35, 36, 37, 38, 39, 40], kb := [] }),
 (4, { ops := [(2, { mr := [2] })], kt := [42, 43, 44, 45], kb := [] }),
 (5, { ops := [], kt := [42, 43, 44, 45, 46, 47, 48, 49, 50, 51, 52, 53, 54, 55, 56, 57, 58, 59], kb := [] }),
 (6, { ops := [(1, { mr := [2] }), (6, { mr := [3] })], kt := [49, 50, 51, 52, 53, 54, 55, 56, 57, 58], kb := [] })]
def c_pref11_Same (F : Nat → FuncId) : AFun := { nparams := 2, ntmps := 60, results := [.tmp 4], body :=
 (.seq
 (.reg [⟨(some 2), [], [.t 0], [], [2], .box, none⟩,
 ⟨(some 3), [], [.t 1], [], [3], .box, none⟩,
 ⟨(some 4), [], [.c (.bool false)], [], [], .cp, none⟩] [] [])
 (.seq
 (.seq
 (.reg [⟨(some 6), [], [.t 2], [], [], .faddr 0, none⟩,
 ⟨(some 7), [], [.t 6], [2], [], .load false 1, none⟩,
 ⟨(some 8), [], [.t 3], [], [], .faddr 0, none⟩,
 ⟨(some 9), [], [.t 8], [3], [], .load false 1, none⟩,
 ⟨(some 10), [], [.t 7, .t 9], [], [], .bini .neq, none⟩,
 ⟨(some 11), [], [.t 10], [], [], .cp, none⟩,
 ⟨(some 12), [], [.t 2], [], [], .faddr 2, some (11, false)⟩,
 ⟨(some 13), [], [.t 12], [2], [], .load true 3, some (11, false)⟩,
 ⟨(some 14), [], [.t 3], [], [], .faddr 2, some (11, false)⟩,
 ⟨(some 15), [], [.t 14], [3], [], .load true 3, some (11, false)⟩,
 ⟨(some 16), [], [.t 13, .t 15], [], [], .eqa [.i, .i, .s] true, some (11, false)⟩,
 ⟨(some 17), [], [.t 11, .c (.bool true), .t 16], [], [], .pick, none⟩,
 ⟨(some 18), [], [.t 17], [], [], .cp, none⟩,
 ⟨(some 19), [], [.t 2], [], [], .faddr 5, some (18, false)⟩,
 ⟨(some 20), [], [.t 19], [2], [], .load false 1, some (18, false)⟩,
 ⟨(some 21), [], [.t 3], [], [], .faddr 5, some (18, false)⟩,
 ⟨(some 22), [], [.t 21], [3], [], .load false 1, some (18, false)⟩,
 ⟨(some 23), [], [.t 20, .t 22], [], [], .bini .neq, some (18, false)⟩,
 ⟨(some 24), [], [.t 18, .c (.bool true), .t 23], [], [], .pick, none⟩,
 ⟨(some 25), [], [.t 24], [], [], .cp, none⟩,
 ⟨(some 26), [], [.t 2], [], [], .faddr 1, some (25, false)⟩,
 ⟨(some 27), [], [.t 26], [2], [], .load false 1, some (25, false)⟩,
 ⟨(some 28), [], [.t 3], [], [], .faddr 1, some (25, false)⟩,
 ⟨(some 29), [], [.t 28], [3], [], .load false 1, some (25, false)⟩,
 ⟨(some 30), [], [.c (.fn (F n_pref03_Same)), .t 27, .t 29], [], [], .call 0 false, some (25, false)⟩,
 ⟨(some 31), [], [.t 30], [], [], .not, some (25, false)⟩,
 ⟨(some 32), [], [.t 25, .c (.bool true), .t 31], [], [], .pick, none⟩,
 ⟨(some 33), [], [.t 32], [], [], .cp, none⟩,
 ⟨(some 34), [], [.t 2], [], [], .faddr 6, some (33, false)⟩,
 ⟨(some 35), [], [.t 34], [2], [], .load false 1, some (33, false)⟩,
 ⟨(some 36), [], [.t 35], [], [], .len false, some (33, false)⟩,
 ⟨(some 37), [], [.t 3], [], [], .faddr 6, some (33, false)⟩,
 ⟨(some 38), [], [.t 37], [3], [], .load false 1, some (33, false)⟩,
 ⟨(some 39), [], [.t 38], [], [], .len false, some (33, false)⟩,
 ⟨(some 40), [], [.t 36, .t 39], [], [], .bini .neq, some (33, false)⟩,
 ⟨(some 41), [], [.t 33, .c (.bool true), .t 40], [], [], .pick, none⟩] [6, 7, 8, 9, 10, 11, 12, 13, 14, 15, 16, 17, 18, 19, 20, 21, 22, 23, 24, 25, 26, 27, 28, 29, 30, 31, 32, 33, 34, 35, 36, 37, 38, 39, 40] [])
 (.cond (.t 41)
 (.seq
 (.reg [⟨(some 4), [], [.c (.bool false)], [], [], .cp, none⟩] [] [])
 .ret)
 .skip))
 (.seq
 (.seq
 (.reg [⟨(some 5), [], [.c (.int .i64 0)], [], [], .cp, none⟩] [] [])
 (.block 0
 (.loop
 (.seq
 (.seq
 (.reg [⟨(some 42), [], [.t 5], [], [], .cp, none⟩,
 ⟨(some 43), [], [.t 2], [], [], .faddr 6, none⟩,
 ⟨(some 44), [], [.t 43], [2], [], .load false 1, none⟩,
 ⟨(some 45), [], [.t 44], [], [], .len false, none⟩,
 ⟨(some 46), [], [.t 42, .t 45], [], [], .bini .lss, none⟩] [42, 43, 44, 45] [])
 (.cond (.t 46)
 .skip
 (.exit 0)))
 (.seq
 (.block 1
 (.seq
 (.reg [⟨(some 49), [], [.t 2], [], [], .faddr 6, none⟩,
 ⟨(some 50), [], [.t 49], [2], [], .load false 1, none⟩,
 ⟨(some 51), [], [.t 5], [], [], .cp, none⟩,
 ⟨(some 52), [], [.t 50, .t 51], [], [], .iaddr none 3, none⟩,
 ⟨(some 53), [], [.t 52], [], [], .load true 3, none⟩,
 ⟨(some 54), [], [.t 3], [], [], .faddr 6, none⟩,
 ⟨(some 55), [], [.t 54], [3], [], .load false 1, none⟩,
 ⟨(some 56), [], [.t 5], [], [], .cp, none⟩,
 ⟨(some 57), [], [.t 55, .t 56], [], [], .iaddr none 3, none⟩,
 ⟨(some 58), [], [.t 57], [], [], .load true 3, none⟩,
 ⟨(some 59), [], [.t 53, .t 58], [], [], .eqa [.i, .i, .i] true, none⟩] [49, 50, 51, 52, 53, 54, 55, 56, 57, 58] [])
 (.cond (.t 59)
 (.seq
 (.reg [⟨(some 4), [], [.c (.bool false)], [], [], .cp, none⟩] [] [])
 .ret)
 .skip)))
 (.reg [⟨(some 47), [], [.t 5], [], [], .cp, none⟩,
 ⟨(some 48), [], [.t 47, .c (.int .i64 1)], [], [], .bini .add, none⟩,
 ⟨(some 5), [48], [.t 48], [], [], .mv, none⟩] [42, 43, 44, 45, 46, 47, 48, 49, 50, 51, 52, 53, 54, 55, 56, 57, 58, 59] []))))))
 (.seq
 (.reg [⟨(some 4), [], [.c (.bool true)], [], [], .cp, none⟩] [] [])
 .ret)))) }

def H_op_Gone : Hints := [(1, { ops := [(1, { mr := [1] }), (5, { mr := [1] }), (11, { mr := [1] }), (17, { mr := [1] }), (22, { mr := [1] })], kt := [3, 4, 5, 6, 7, 8, 9, 10, 11, 12, 13, 14, 15, 16, 17, 18, 19, 20, 21, 22, 23, 24, 25, 26, 27, 28], kb := [] })]
def c_op_Gone (F : Nat → FuncId) : AFun := { nparams := 1, ntmps := 29, results := [.tmp 2], body :=
 (.seq
 (.reg [⟨(some 1), [], [.t 0], [], [1], .box, none⟩,
 ⟨(some 2), [], [.c (.bool false)], [], [], .cp, none⟩] [] [])
 (.seq
 (.reg [⟨(some 3), [], [.t 1], [], [], .faddr 0, none⟩,
 ⟨(some 4), [], [.t 3], [1], [], .load false 1, none⟩,
 ⟨(some 5), [], [.t 4, .c (.int .i64 0)], [], [], .bini .eql, none⟩,
 ⟨(some 6), [], [.t 5], [], [], .cp, none⟩,
 ⟨(some 7), [], [.t 1], [], [], .faddr 1, some (6, true)⟩,
 ⟨(some 8), [], [.t 7], [1], [], .load false 1, some (6, true)⟩,
 ⟨(some 9), [], [.t 8], [], [], .len false, some (6, true)⟩,
 ⟨(some 10), [], [.t 9, .c (.int .i64 0)], [], [], .bini .eql, some (6, true)⟩,
 ⟨(some 11), [], [.t 6, .t 10, .c (.bool false)], [], [], .pick, none⟩,
 ⟨(some 12), [], [.t 11], [], [], .cp, none⟩,
 ⟨(some 13), [], [.t 1], [], [], .faddr 2, some (12, true)⟩,
 ⟨(some 14), [], [.t 13], [1], [], .load true 3, some (12, true)⟩,
 ⟨(some 15), [], [], [], [], .build [.int .i64 0, .int .i64 0, .str []] [], some (12, true)⟩,
 ⟨(some 16), [], [.t 14, .t 15], [], [], .eqa [.i, .i, .s] false, some (12, true)⟩,
 ⟨(some 17), [], [.t 12, .t 16, .c (.bool false)], [], [], .pick, none⟩,
 ⟨(some 18), [], [.t 17], [], [], .cp, none⟩,
 ⟨(some 19), [], [.t 1], [], [], .faddr 5, some (18, true)⟩,
 ⟨(some 20), [], [.t 19], [1], [], .load false 1, some (18, true)⟩,
 ⟨(some 21), [], [.t 20, .c (.int .i64 0)], [], [], .bini .eql, some (18, true)⟩,
 ⟨(some 22), [], [.t 18, .t 21, .c (.bool false)], [], [], .pick, none⟩,
 ⟨(some 23), [], [.t 22], [], [], .cp, none⟩,
 ⟨(some 24), [], [.t 1], [], [], .faddr 6, some (23, true)⟩,
 ⟨(some 25), [], [.t 24], [1], [], .load false 1, some (23, true)⟩,
 ⟨(some 26), [], [.t 25], [], [], .len false, some (23, true)⟩,
 ⟨(some 27), [], [.t 26, .c (.int .i64 0)], [], [], .bini .eql, some (23, true)⟩,
 ⟨(some 28), [], [.t 23, .t 27, .c (.bool false)], [], [], .pick, none⟩,
 ⟨(some 2), [28], [.t 28], [], [], .mv, none⟩] [3, 4, 5, 6, 7, 8, 9, 10, 11, 12, 13, 14, 15, 16, 17, 18, 19, 20, 21, 22, 23, 24, 25, 26, 27, 28] [])
 .ret)) }

def H_pref11_Gone : Hints := [(1, { ops := [(2, { mw := [3] })], kt := [4], kb := [] }),
 (2, { ops := [(1, { mr := [1] }), (5, { mr := [1] }), (11, { mr := [1] }), (12, { mr := [3] }), (17, { mr := [1] }), (22, { mr := [1] })], kt := [5, 6, 7, 8, 9, 10, 11, 12, 13, 14, 15, 16, 17, 18, 19, 20, 21, 22, 23, 24, 25, 26, 27, 28, 29, 30], kb := [] })]
def c_pref11_Gone (F : Nat → FuncId) : AFun := { nparams := 1, ntmps := 31, results := [.tmp 2], body :=
 (.seq
 (.reg [⟨(some 1), [], [.t 0], [], [1], .box, none⟩,
 ⟨(some 2), [], [.c (.bool false)], [], [], .cp, none⟩] [] [])
 (.seq
 (.reg [⟨(some 4), [], [], [], [], .build [.int .i64 0, .int .i64 0, .str []] [], none⟩,
 ⟨(some 3), [], [], [], [3], .alloc [.val (.int .i64 0), .val (.int .i64 0), .val (.str [])], none⟩,
 ⟨none, [4], [.t 3, .t 4], [], [3], .store true 3, none⟩] [4] [])
 (.seq
 (.reg [⟨(some 5), [], [.t 1], [], [], .faddr 0, none⟩,
 ⟨(some 6), [], [.t 5], [1], [], .load false 1, none⟩,
 ⟨(some 7), [], [.t 6, .c (.int .i64 0)], [], [], .bini .eql, none⟩,
 ⟨(some 8), [], [.t 7], [], [], .cp, none⟩,
 ⟨(some 9), [], [.t 1], [], [], .faddr 1, some (8, true)⟩,
 ⟨(some 10), [], [.t 9], [1], [], .load false 1, some (8, true)⟩,
 ⟨(some 11), [], [.t 10], [], [], .len false, some (8, true)⟩,
 ⟨(some 12), [], [.t 11, .c (.int .i64 0)], [], [], .bini .eql, some (8, true)⟩,
 ⟨(some 13), [], [.t 8, .t 12, .c (.bool false)], [], [], .pick, none⟩,
 ⟨(some 14), [], [.t 13], [], [], .cp, none⟩,
 ⟨(some 15), [], [.t 1], [], [], .faddr 2, some (14, true)⟩,
 ⟨(some 16), [], [.t 15], [1], [], .load true 3, some (14, true)⟩,
 ⟨(some 17), [], [.t 3], [3], [], .load true 3, some (14, true)⟩,
 ⟨(some 18), [], [.t 16, .t 17], [], [], .eqa [.i, .i, .s] false, some (14, true)⟩,
 ⟨(some 19), [], [.t 14, .t 18, .c (.bool false)], [], [], .pick, none⟩,
 ⟨(some 20), [], [.t 19], [], [], .cp, none⟩,
 ⟨(some 21), [], [.t 1], [], [], .faddr 5, some (20, true)⟩,
 ⟨(some 22), [], [.t 21], [1], [], .load false 1, some (20, true)⟩,
 ⟨(some 23), [], [.t 22, .c (.int .i64 0)], [], [], .bini .eql, some (20, true)⟩,
 ⟨(some 24), [], [.t 20, .t 23, .c (.bool false)], [], [], .pick, none⟩,
 ⟨(some 25), [], [.t 24], [], [], .cp, none⟩,
 ⟨(some 26), [], [.t 1], [], [], .faddr 6, some (25, true)⟩,
 ⟨(some 27), [], [.t 26], [1], [], .load false 1, some (25, true)⟩,
 ⟨(some 28), [], [.t 27], [], [], .len false, some (25, true)⟩,
 ⟨(some 29), [], [.t 28, .c (.int .i64 0)], [], [], .bini .eql, some (25, true)⟩,
 ⟨(some 30), [], [.t 25, .t 29, .c (.bool false)], [], [], .pick, none⟩,
 ⟨(some 2), [30], [.t 30], [], [], .mv, none⟩] [5, 6, 7, 8, 9, 10, 11, 12, 13, 14, 15, 16, 17, 18, 19, 20, 21, 22, 23, 24, 25, 26, 27, 28, 29, 30] [])
 .ret))) }

def H_op_Code : Hints := [(1, { ops := [(1, { mr := [1] })], kt := [6, 7, 8], kb := [] }),
 (2, { ops := [(0, { mr := [1] })], kt := [9], kb := [] }),
 (3, { ops := [], kt := [11], kb := [] }),
 (4, { ops := [(2, { mr := [1] })], kt := [12, 13, 14, 15, 16], kb := [] }),
 (5, { ops := [(1, { mr := [1] })], kt := [17], kb := [] }),
 (6, { ops := [], kt := [20], kb := [] }),
 (7, { ops := [(2, { mr := [1] })], kt := [21, 22, 23, 24, 25, 26], kb := [] }),
 (8, { ops := [], kt := [28], kb := [] }),
 (9, { ops := [], kt := [29], kb := [] }),
 (10, { ops := [], kt := [30], kb := [] }),
 (11, { ops := [(2, { mr := [1] })], kt := [31, 32, 33, 34, 35], kb := [] }),
 (12, { ops := [(1, { mr := [1] })], kt := [36, 37], kb := [] }),
 (13, { ops := [], kt := [39], kb := [] }),
 (14, { ops := [(2, { mr := [1] })], kt := [40, 41, 42, 43, 44, 45], kb := [] }),
 (15, { ops := [(1, { mr := [1] })], kt := [46], kb := [] }),
 (17, { ops := [(3, { mw := [5] })], kt := [51, 52], kb := [] }),
 (18, { ops := [(2, { mr := [5] }), (5, { mr := [5] })], kt := [53, 54, 55, 56, 57, 58, 59, 60, 61], kb := [] }),
 (19, { ops := [], kt := [5, 50, 51, 52, 53, 54, 55, 56, 57, 58, 59, 60, 61, 62], kb := [5] }),
 (20, { ops := [], kt := [63], kb := [] })]
def c_op_Code (F : Nat → FuncId) : AFun := { nparams := 1, ntmps := 64, results := [.tmp 2], body :=
 (.seq
 (.reg [⟨(some 1), [], [.t 0], [], [1], .box, none⟩,
 ⟨(some 2), [], [.c (.str [])], [], [], .cp, none⟩] [] [])
 (.seq
 (.reg [⟨(some 6), [], [.t 1], [], [], .faddr 0, none⟩,
 ⟨(some 7), [], [.t 6], [1], [], .load false 1, none⟩,
 ⟨(some 8), [], [.c (.fn (F n_pack_Int)), .t 7], [], [], .call 0 false, none⟩,
 ⟨(some 3), [8], [.t 8], [], [], .mv, none⟩] [6, 7, 8] [])
 (.seq
 (.seq
 (.reg [⟨(some 9), [], [.t 1], [1], [], .load true 7, none⟩,
 ⟨(some 10), [], [.c (.fn (F n_op_Gone)), .t 9], [], [], .call 0 false, none⟩] [9] [])
 (.cond (.t 10)
 (.seq
 (.reg [⟨(some 11), [], [.t 3], [], [], .cp, none⟩,
 ⟨(some 2), [11], [.t 11], [], [], .mv, none⟩] [11] [])
 .ret)
 .skip))
 (.seq
 (.reg [⟨(some 12), [], [.t 3], [], [], .cp, none⟩,
 ⟨(some 13), [], [.t 1], [], [], .faddr 1, none⟩,
 ⟨(some 14), [], [.t 13], [1], [], .load false 1, none⟩,
 ⟨(some 15), [], [.c (.fn (F n_path_Code)), .t 14], [], [], .call 0 false, none⟩,
 ⟨(some 16), [], [.t 12, .t 15], [], [], .bins .add, none⟩,
 ⟨(some 3), [16], [.t 16], [], [], .mv, none⟩] [12, 13, 14, 15, 16] [])
 (.seq
 (.seq
 (.reg [⟨(some 17), [], [.t 1], [], [], .faddr 0, none⟩,
 ⟨(some 18), [], [.t 17], [1], [], .load false 1, none⟩] [17] [])
 (.block 0
 (.seq
 (.reg [⟨(some 20), [], [.t 18, .c (.int .i64 3)], [], [], .bini .eql, none⟩,
 ⟨(some 19), [20], [.t 20], [], [], .mv, none⟩] [20] [])
 (.cond (.t 19)
 (.seq
 (.reg [⟨(some 21), [], [.t 3], [], [], .cp, none⟩,
 ⟨(some 22), [], [.t 1], [], [], .faddr 5, none⟩,
 ⟨(some 23), [], [.t 22], [1], [], .load false 1, none⟩,
 ⟨(some 24), [], [.c (.fn (F n_value_Fold)), .t 23], [], [], .call 0 false, none⟩,
 ⟨(some 25), [], [.c (.fn (F n_pack_Int)), .t 24], [], [], .call 0 false, none⟩,
 ⟨(some 26), [], [.t 21, .t 25], [], [], .bins .add, none⟩,
 ⟨(some 2), [26], [.t 26], [], [], .mv, none⟩] [21, 22, 23, 24, 25, 26] [])
 .ret)
 (.seq
 (.seq
 (.reg [⟨(some 28), [], [.t 18, .c (.int .i64 1)], [], [], .bini .eql, none⟩,
 ⟨(some 27), [28], [.t 28], [], [], .mv, none⟩] [28] [])
 (.cond (.t 27)
 .skip
 (.seq
 (.reg [⟨(some 29), [], [.t 18, .c (.int .i64 2)], [], [], .bini .eql, none⟩,
 ⟨(some 27), [29], [.t 29], [], [], .mv, none⟩] [29] [])
 (.cond (.t 27)
 .skip
 (.reg [⟨(some 30), [], [.t 18, .c (.int .i64 4)], [], [], .bini .eql, none⟩,
 ⟨(some 27), [30], [.t 30], [], [], .mv, none⟩] [30] [])))))
 (.cond (.t 27)
 (.reg [⟨(some 31), [], [.t 3], [], [], .cp, none⟩,
 ⟨(some 32), [], [.t 1], [], [], .faddr 2, none⟩,
 ⟨(some 33), [], [.t 32], [1], [], .load true 3, none⟩,
 ⟨(some 34), [], [.c (.fn (F n_value_Code)), .t 33], [], [], .call 0 false, none⟩,
 ⟨(some 35), [], [.t 31, .t 34], [], [], .bins .add, none⟩,
 ⟨(some 3), [35], [.t 35], [], [], .mv, none⟩] [31, 32, 33, 34, 35] [])
 .skip))))))
 (.seq
 (.seq
 (.reg [⟨(some 36), [], [.t 1], [], [], .faddr 0, none⟩,
 ⟨(some 37), [], [.t 36], [1], [], .load false 1, none⟩,
 ⟨(some 38), [], [.t 37, .c (.int .i64 2)], [], [], .bini .eql, none⟩] [36, 37] [])
 (.cond (.t 38)
 (.seq
 (.reg [⟨(some 39), [], [.t 3], [], [], .cp, none⟩,
 ⟨(some 2), [39], [.t 39], [], [], .mv, none⟩] [39] [])
 .ret)
 .skip))
 (.seq
 (.reg [⟨(some 40), [], [.t 3], [], [], .cp, none⟩,
 ⟨(some 41), [], [.t 1], [], [], .faddr 6, none⟩,
 ⟨(some 42), [], [.t 41], [1], [], .load false 1, none⟩,
 ⟨(some 43), [], [.t 42], [], [], .len false, none⟩,
 ⟨(some 44), [], [.c (.fn (F n_pack_Int)), .t 43], [], [], .call 0 false, none⟩,
 ⟨(some 45), [], [.t 40, .t 44], [], [], .bins .add, none⟩,
 ⟨(some 3), [45], [.t 45], [], [], .mv, none⟩] [40, 41, 42, 43, 44, 45] [])
 (.seq
 (.seq
 (.reg [⟨(some 46), [], [.t 1], [], [], .faddr 6, none⟩,
 ⟨(some 47), [], [.t 46], [1], [], .load false 1, none⟩,
 ⟨(some 48), [], [.t 47], [], [], .len false, none⟩,
 ⟨(some 49), [], [.c (.int .i64 0)], [], [], .cp, none⟩] [46] [])
 (.block 1
 (.loop
 (.seq
 (.reg [⟨(some 50), [], [.t 49, .t 48], [], [], .bini .lss, none⟩] [] [])
 (.seq
 (.cond (.t 50)
 .skip
 (.exit 1))
 (.seq
 (.block 2
 (.seq
 (.reg [⟨(some 51), [], [.t 47, .t 49], [], [], .iaddr none 3, none⟩,
 ⟨(some 52), [], [.t 51], [], [], .load true 3, none⟩,
 ⟨(some 5), [], [], [], [5], .alloc [.val (.int .i64 0), .val (.int .i64 0), .val (.int .i64 0)], none⟩,
 ⟨none, [52], [.t 5, .t 52], [], [5], .store true 3, none⟩] [51, 52] [])
 (.reg [⟨(some 53), [], [.t 3], [], [], .cp, none⟩,
 ⟨(some 54), [], [.t 5], [], [], .faddr 0, none⟩,
 ⟨(some 55), [], [.t 54], [5], [], .load true 2, none⟩,
 ⟨(some 56), [], [.c (.fn (F n_dot_Code)), .t 55], [], [], .call 0 false, none⟩,
 ⟨(some 57), [], [.t 5], [], [], .faddr 2, none⟩,
 ⟨(some 58), [], [.t 57], [5], [], .load false 1, none⟩,
 ⟨(some 59), [], [.c (.fn (F n_pack_Int)), .t 58], [], [], .call 0 false, none⟩,
 ⟨(some 60), [], [.t 56, .t 59], [], [], .bins .add, none⟩,
 ⟨(some 61), [], [.t 53, .t 60], [], [], .bins .add, none⟩,
 ⟨(some 3), [61], [.t 61], [], [], .mv, none⟩] [53, 54, 55, 56, 57, 58, 59, 60, 61] [])))
 (.reg [⟨(some 62), [], [.t 49, .c (.int .i64 1)], [], [], .bini .add, none⟩,
 ⟨(some 49), [], [.t 62], [], [], .cp, none⟩] [5, 50, 51, 52, 53, 54, 55, 56, 57, 58, 59, 60, 61, 62] [5])))))))
 (.seq
 (.reg [⟨(some 63), [], [.t 3], [], [], .cp, none⟩,
 ⟨(some 2), [63], [.t 63], [], [], .mv, none⟩] [63] [])
 .ret))))))))) }

def H_pref11_Code : Hints := [(1, { ops := [(1, { mr := [1] })], kt := [5, 6, 7], kb := [] }),
 (2, { ops := [(0, { mr := [1] })], kt := [8], kb := [] }),
 (3, { ops := [], kt := [10], kb := [] }),
 (4, { ops := [(2, { mr := [1] })], kt := [11, 12, 13, 14, 15], kb := [] }),
 (5, { ops := [(1, { mr := [1] })], kt := [16, 17], kb := [] }),
 (6, { ops := [(2, { mr := [1] })], kt := [19, 20, 21, 22, 23, 24], kb := [] }),
 (7, { ops := [(1, { mr := [1] })], kt := [25, 26], kb := [] }),
 (8, { ops := [(2, { mr := [1] })], kt := [28, 29, 30, 31, 32], kb := [] }),
 (9, { ops := [(1, { mr := [1] })], kt := [33, 34], kb := [] }),
 (10, { ops := [], kt := [36], kb := [] }),
 (11, { ops := [(2, { mr := [1] })], kt := [37, 38, 39, 40, 41, 42], kb := [] }),
 (13, { ops := [(2, { mr := [1] })], kt := [43, 44, 45, 46], kb := [] }),
 (14, { ops := [], kt := [43, 44, 45, 46, 47, 48, 49, 50, 51, 52, 53, 54, 55, 56, 57, 58, 59, 60, 61, 62, 63, 64, 65, 66], kb := [] }),
 (15, { ops := [(2, { mr := [1] }), (10, { mr := [1] })], kt := [50, 51, 52, 53, 54, 55, 56, 57, 58, 59, 60, 61, 62, 63, 64, 65, 66], kb := [] }),
 (16, { ops := [], kt := [67], kb := [] })]
def c_pref11_Code (F : Nat → FuncId) : AFun := { nparams := 1, ntmps := 68, results := [.tmp 2], body :=
 (.seq
 (.reg [⟨(some 1), [], [.t 0], [], [1], .box, none⟩,
 ⟨(some 2), [], [.c (.str [])], [], [], .cp, none⟩] [] [])
 (.seq
 (.reg [⟨(some 5), [], [.t 1], [], [], .faddr 0, none⟩,
 ⟨(some 6), [], [.t 5], [1], [], .load false 1, none⟩,
 ⟨(some 7), [], [.c (.fn (F n_pref02_Int)), .t 6], [], [], .call 0 false, none⟩,
 ⟨(some 3), [7], [.t 7], [], [], .mv, none⟩] [5, 6, 7] [])
 (.seq
 (.seq
 (.reg [⟨(some 8), [], [.t 1], [1], [], .load true 7, none⟩,
 ⟨(some 9), [], [.c (.fn (F n_pref11_Gone)), .t 8], [], [], .call 0 false, none⟩] [8] [])
 (.cond (.t 9)
 (.seq
 (.reg [⟨(some 10), [], [.t 3], [], [], .cp, none⟩,
 ⟨(some 2), [10], [.t 10], [], [], .mv, none⟩] [10] [])
 .ret)
 .skip))
 (.seq
 (.reg [⟨(some 11), [], [.t 3], [], [], .cp, none⟩,
 ⟨(some 12), [], [.t 1], [], [], .faddr 1, none⟩,
 ⟨(some 13), [], [.t 12], [1], [], .load false 1, none⟩,
 ⟨(some 14), [], [.c (.fn (F n_pref10_Code)), .t 13], [], [], .call 0 false, none⟩,
 ⟨(some 15), [], [.t 11, .t 14], [], [], .bins .add, none⟩,
 ⟨(some 3), [15], [.t 15], [], [], .mv, none⟩] [11, 12, 13, 14, 15] [])
 (.seq
 (.seq
 (.reg [⟨(some 16), [], [.t 1], [], [], .faddr 0, none⟩,
 ⟨(some 17), [], [.t 16], [1], [], .load false 1, none⟩,
 ⟨(some 18), [], [.t 17, .c (.int .i64 3)], [], [], .bini .eql, none⟩] [16, 17] [])
 (.cond (.t 18)
 (.seq
 (.reg [⟨(some 19), [], [.t 3], [], [], .cp, none⟩,
 ⟨(some 20), [], [.t 1], [], [], .faddr 5, none⟩,
 ⟨(some 21), [], [.t 20], [1], [], .load false 1, none⟩,
 ⟨(some 22), [], [.c (.fn (F n_pref09_Fold)), .t 21], [], [], .call 0 false, none⟩,
 ⟨(some 23), [], [.c (.fn (F n_pref02_Int)), .t 22], [], [], .call 0 false, none⟩,
 ⟨(some 24), [], [.t 19, .t 23], [], [], .bins .add, none⟩,
 ⟨(some 2), [24], [.t 24], [], [], .mv, none⟩] [19, 20, 21, 22, 23, 24] [])
 .ret)
 .skip))
 (.seq
 (.seq
 (.reg [⟨(some 25), [], [.t 1], [], [], .faddr 0, none⟩,
 ⟨(some 26), [], [.t 25], [1], [], .load false 1, none⟩,
 ⟨(some 27), [], [.t 26, .c (.int .i64 5)], [], [], .bini .neq, none⟩] [25, 26] [])
 (.cond (.t 27)
 (.reg [⟨(some 28), [], [.t 3], [], [], .cp, none⟩,
 ⟨(some 29), [], [.t 1], [], [], .faddr 2, none⟩,
 ⟨(some 30), [], [.t 29], [1], [], .load true 3, none⟩,
 ⟨(some 31), [], [.c (.fn (F n_pref09_Code)), .t 30], [], [], .call 0 false, none⟩,
 ⟨(some 32), [], [.t 28, .t 31], [], [], .bins .add, none⟩,
 ⟨(some 3), [32], [.t 32], [], [], .mv, none⟩] [28, 29, 30, 31, 32] [])
 .skip))
 (.seq
 (.seq
 (.reg [⟨(some 33), [], [.t 1], [], [], .faddr 0, none⟩,
 ⟨(some 34), [], [.t 33], [1], [], .load false 1, none⟩,
 ⟨(some 35), [], [.t 34, .c (.int .i64 2)], [], [], .bini .eql, none⟩] [33, 34] [])
 (.cond (.t 35)
 (.seq
 (.reg [⟨(some 36), [], [.t 3], [], [], .cp, none⟩,
 ⟨(some 2), [36], [.t 36], [], [], .mv, none⟩] [36] [])
 .ret)
 .skip))
 (.seq
 (.reg [⟨(some 37), [], [.t 3], [], [], .cp, none⟩,
 ⟨(some 38), [], [.t 1], [], [], .faddr 6, none⟩,
 ⟨(some 39), [], [.t 38], [1], [], .load false 1, none⟩,
 ⟨(some 40), [], [.t 39], [], [], .len false, none⟩,
 ⟨(some 41), [], [.c (.fn (F n_pref02_Int)), .t 40], [], [], .call 0 false, none⟩,
 ⟨(some 42), [], [.t 37, .t 41], [], [], .bins .add, none⟩,
 ⟨(some 3), [42], [.t 42], [], [], .mv, none⟩] [37, 38, 39, 40, 41, 42] [])
 (.seq
 (.seq
 (.reg [⟨(some 4), [], [.c (.int .i64 0)], [], [], .cp, none⟩] [] [])
 (.block 0
 (.loop
 (.seq
 (.seq
 (.reg [⟨(some 43), [], [.t 4], [], [], .cp, none⟩,
 ⟨(some 44), [], [.t 1], [], [], .faddr 6, none⟩,
 ⟨(some 45), [], [.t 44], [1], [], .load false 1, none⟩,
 ⟨(some 46), [], [.t 45], [], [], .len false, none⟩,
 ⟨(some 47), [], [.t 43, .t 46], [], [], .bini .lss, none⟩] [43, 44, 45, 46] [])
 (.cond (.t 47)
 .skip
 (.exit 0)))
 (.seq
 (.block 1
 (.reg [⟨(some 50), [], [.t 3], [], [], .cp, none⟩,
 ⟨(some 51), [], [.t 1], [], [], .faddr 6, none⟩,
 ⟨(some 52), [], [.t 51], [1], [], .load false 1, none⟩,
 ⟨(some 53), [], [.t 4], [], [], .cp, none⟩,
 ⟨(some 54), [], [.t 52, .t 53], [], [], .iaddr none 3, none⟩,
 ⟨(some 55), [], [.t 54], [], [], .faddr 0, none⟩,
 ⟨(some 56), [], [.t 55], [], [], .load true 2, none⟩,
 ⟨(some 57), [], [.c (.fn (F n_pref04_Code)), .t 56], [], [], .call 0 false, none⟩,
 ⟨(some 58), [], [.t 50, .t 57], [], [], .bins .add, none⟩,
 ⟨(some 59), [], [.t 1], [], [], .faddr 6, none⟩,
 ⟨(some 60), [], [.t 59], [1], [], .load false 1, none⟩,
 ⟨(some 61), [], [.t 4], [], [], .cp, none⟩,
 ⟨(some 62), [], [.t 60, .t 61], [], [], .iaddr none 3, none⟩,
 ⟨(some 63), [], [.t 62], [], [], .faddr 2, none⟩,
 ⟨(some 64), [], [.t 63], [], [], .load false 1, none⟩,
 ⟨(some 65), [], [.c (.fn (F n_pref02_Int)), .t 64], [], [], .call 0 false, none⟩,
 ⟨(some 66), [], [.t 58, .t 65], [], [], .bins .add, none⟩,
 ⟨(some 3), [66], [.t 66], [], [], .mv, none⟩] [50, 51, 52, 53, 54, 55, 56, 57, 58, 59, 60, 61, 62, 63, 64, 65, 66] []))
 (.reg [⟨(some 48), [], [.t 4], [], [], .cp, none⟩,
 ⟨(some 49), [], [.t 48, .c (.int .i64 1)], [], [], .bini .add, none⟩,
 ⟨(some 4), [49], [.t 49], [], [], .mv, none⟩] [43, 44, 45, 46, 47, 48, 49, 50, 51, 52, 53, 54, 55, 56, 57, 58, 59, 60, 61, 62, 63, 64, 65, 66] []))))))
 (.seq
 (.reg [⟨(some 67), [], [.t 3], [], [], .cp, none⟩,
 ⟨(some 2), [67], [.t 67], [], [], .mv, none⟩] [67] [])
 .ret)))))))))) }

def H_op_Read : Hints := [(1, { ops := [(1, { mw := [0], nref := 1 }), (4, { mw := [3] })], kt := [4, 5, 6], kb := [] }),
 (2, { ops := [(1, { mr := [3] })], kt := [7, 8], kb := [] }),
 (3, { ops := [(0, { mr := [3] }), (1, { mw := [2] })], kt := [10], kb := [] }),
 (4, { ops := [(1, { mw := [0], nref := 1 }), (3, { mw := [3] })], kt := [11, 12, 13], kb := [] }),
 (5, { ops := [(1, { mr := [3] })], kt := [14], kb := [] }),
 (6, { ops := [], kt := [17], kb := [] }),
 (7, { ops := [(1, { mw := [0], nref := 1 }), (4, { mw := [3] })], kt := [18, 19, 20, 21], kb := [] }),
 (8, { ops := [], kt := [23], kb := [] }),
 (9, { ops := [], kt := [24], kb := [] }),
 (10, { ops := [(1, { mw := [0], nref := 1 }), (3, { mw := [3] })], kt := [25, 26, 27], kb := [] }),
 (11, { ops := [(1, { mw := [0], nref := 1 }), (3, { mw := [3] })], kt := [28, 29, 30], kb := [] }),
 (12, { ops := [], kt := [32], kb := [] }),
 (13, { ops := [(1, { mw := [0], nref := 1 }), (3, { mw := [3] })], kt := [33, 34, 35], kb := [] }),
 (14, { ops := [], kt := [37], kb := [] }),
 (15, { ops := [(1, { mw := [0], nref := 1 }), (3, { mw := [3] })], kt := [38, 39, 40], kb := [] }),
 (16, { ops := [(1, { mw := [0], nref := 1 })], kt := [41, 42], kb := [] }),
 (17, { ops := [(1, { mr := [3] }), (3, { mw := [0], nref := 1 })], kt := [44, 45, 46, 47], kb := [] }),
 (18, { ops := [(1, { mw := [0], nref := 1 })], kt := [48, 49], kb := [] }),
 (19, { ops := [(1, { mw := [2] })], kt := [51], kb := [] }),
 (20, { ops := [(0, { mr := [3] }), (1, { mw := [2] })], kt := [52], kb := [] })]
def c_op_Read (F : Nat → FuncId) : AFun := { nparams := 1, ntmps := 53, results := [.cell 2 true 7], body :=
 (.seq
 (.reg [⟨(some 2), [], [], [], [2], .alloc [.val (.int .i64 0), .own 1 [], .val (.int .i64 0), .val (.int .i64 0), .val (.str []), .val (.int .i64 0), .own 3 []], none⟩] [] [])
 (.seq
 (.reg [⟨(some 4), [], [.t 0], [], [], .cp, none⟩,
 ⟨(some 5), [], [.c (.fn (F n_pack_Reader_Int)), .t 4], [], [0], .call 1 false, none⟩,
 ⟨(some 6), [], [.t 5], [], [], .build [.int .i64 0, .sl 1 [], .int .i64 0, .int .i64 0, .str [], .int .i64 0, .sl 3 []] [(0, 1)], none⟩,
 ⟨(some 3), [], [], [], [3], .alloc [.val (.int .i64 0), .own 1 [], .val (.int .i64 0), .val (.int .i64 0), .val (.str []), .val (.int .i64 0), .own 3 []], none⟩,
 ⟨none, [6], [.t 3, .t 6], [], [3], .store true 7, none⟩] [4, 5, 6] [])
 (.seq
 (.seq
 (.reg [⟨(some 7), [], [.t 3], [], [], .faddr 0, none⟩,
 ⟨(some 8), [], [.t 7], [3], [], .load false 1, none⟩,
 ⟨(some 9), [], [.t 8, .c (.int .i64 0)], [], [], .bini .eql, none⟩] [7, 8] [])
 (.cond (.t 9)
 (.seq
 (.reg [⟨(some 10), [], [.t 3], [3], [], .load true 7, none⟩,
 ⟨none, [10], [.t 2, .t 10], [], [2], .store true 7, none⟩] [10] [])
 .ret)
 .skip))
 (.seq
 (.reg [⟨(some 11), [], [.t 0], [], [], .cp, none⟩,
 ⟨(some 12), [], [.c (.fn (F n_path_Read)), .t 11], [], [0], .call 1 false, none⟩,
 ⟨(some 13), [], [.t 3], [], [], .faddr 1, none⟩,
 ⟨none, [12], [.t 13, .t 12], [], [3], .store false 1, none⟩] [11, 12, 13] [])
 (.seq
 (.seq
 (.reg [⟨(some 14), [], [.t 3], [], [], .faddr 0, none⟩,
 ⟨(some 15), [], [.t 14], [3], [], .load false 1, none⟩] [14] [])
 (.block 0
 (.seq
 (.reg [⟨(some 17), [], [.t 15, .c (.int .i64 3)], [], [], .bini .eql, none⟩,
 ⟨(some 16), [17], [.t 17], [], [], .mv, none⟩] [17] [])
 (.cond (.t 16)
 (.reg [⟨(some 18), [], [.t 0], [], [], .cp, none⟩,
 ⟨(some 19), [], [.c (.fn (F n_pack_Reader_Int)), .t 18], [], [0], .call 1 false, none⟩,
 ⟨(some 20), [], [.c (.fn (F n_value_Unfold)), .t 19], [], [], .call 0 false, none⟩,
 ⟨(some 21), [], [.t 3], [], [], .faddr 5, none⟩,
 ⟨none, [20], [.t 21, .t 20], [], [3], .store false 1, none⟩] [18, 19, 20, 21] [])
 (.seq
 (.seq
 (.reg [⟨(some 23), [], [.t 15, .c (.int .i64 1)], [], [], .bini .eql, none⟩,
 ⟨(some 22), [23], [.t 23], [], [], .mv, none⟩] [23] [])
 (.cond (.t 22)
 .skip
 (.reg [⟨(some 24), [], [.t 15, .c (.int .i64 4)], [], [], .bini .eql, none⟩,
 ⟨(some 22), [24], [.t 24], [], [], .mv, none⟩] [24] [])))
 (.cond (.t 22)
 (.seq
 (.reg [⟨(some 25), [], [.t 0], [], [], .cp, none⟩,
 ⟨(some 26), [], [.c (.fn (F n_value_Read)), .t 25], [], [0], .call 1 false, none⟩,
 ⟨(some 27), [], [.t 3], [], [], .faddr 2, none⟩,
 ⟨none, [26], [.t 27, .t 26], [], [3], .store true 3, none⟩] [25, 26, 27] [])
 (.reg [⟨(some 28), [], [.t 0], [], [], .cp, none⟩,
 ⟨(some 29), [], [.c (.fn (F n_op_seen)), .t 28], [], [0], .call 1 false, none⟩,
 ⟨(some 30), [], [.t 3], [], [], .faddr 6, none⟩,
 ⟨none, [29], [.t 30, .t 29], [], [3], .store false 1, none⟩] [28, 29, 30] []))
 (.seq
 (.reg [⟨(some 32), [], [.t 15, .c (.int .i64 2)], [], [], .bini .eql, none⟩,
 ⟨(some 31), [32], [.t 32], [], [], .mv, none⟩] [32] [])
 (.cond (.t 31)
 (.reg [⟨(some 33), [], [.t 0], [], [], .cp, none⟩,
 ⟨(some 34), [], [.c (.fn (F n_value_Read)), .t 33], [], [0], .call 1 false, none⟩,
 ⟨(some 35), [], [.t 3], [], [], .faddr 2, none⟩,
 ⟨none, [34], [.t 35, .t 34], [], [3], .store true 3, none⟩] [33, 34, 35] [])
 (.seq
 (.reg [⟨(some 37), [], [.t 15, .c (.int .i64 5)], [], [], .bini .eql, none⟩,
 ⟨(some 36), [37], [.t 37], [], [], .mv, none⟩] [37] [])
 (.cond (.t 36)
 (.reg [⟨(some 38), [], [.t 0], [], [], .cp, none⟩,
 ⟨(some 39), [], [.c (.fn (F n_op_seen)), .t 38], [], [0], .call 1 false, none⟩,
 ⟨(some 40), [], [.t 3], [], [], .faddr 6, none⟩,
 ⟨none, [39], [.t 40, .t 39], [], [3], .store false 1, none⟩] [38, 39, 40] [])
 .skip))))))))))
 (.seq
 (.seq
 (.reg [⟨(some 41), [], [.t 0], [], [], .cp, none⟩,
 ⟨(some 42), [], [.c (.fn (F n_pack_Reader_Fault)), .t 41], [], [0], .call 1 false, none⟩,
 ⟨(some 43), [], [.t 42, .c (.int .i64 0)], [], [], .bini .eql, none⟩] [41, 42] [])
 (.cond (.t 43)
 (.reg [⟨(some 44), [], [.t 0], [], [], .cp, none⟩,
 ⟨(some 45), [], [.t 3], [3], [], .load true 7, none⟩,
 ⟨(some 46), [], [.c (.fn (F n_op_Check)), .t 45], [], [], .call 0 false, none⟩,
 ⟨(some 47), [], [.c (.fn (F n_pack_Reader_Fail)), .t 44, .t 46], [], [0], .call 1 false, none⟩] [44, 45, 46, 47] [])
 .skip))
 (.seq
 (.seq
 (.reg [⟨(some 48), [], [.t 0], [], [], .cp, none⟩,
 ⟨(some 49), [], [.c (.fn (F n_pack_Reader_Fault)), .t 48], [], [0], .call 1 false, none⟩,
 ⟨(some 50), [], [.t 49, .c (.int .i64 0)], [], [], .bini .neq, none⟩] [48, 49] [])
 (.cond (.t 50)
 (.seq
 (.reg [⟨(some 51), [], [], [], [], .build [.int .i64 0, .sl 1 [], .int .i64 0, .int .i64 0, .str [], .int .i64 0, .sl 3 []] [], none⟩,
 ⟨none, [51], [.t 2, .t 51], [], [2], .store true 7, none⟩] [51] [])
 .ret)
 .skip))
 (.seq
 (.reg [⟨(some 52), [], [.t 3], [3], [], .load true 7, none⟩,
 ⟨none, [52], [.t 2, .t 52], [], [2], .store true 7, none⟩] [52] [])
 .ret)))))))) }

def H_pref09_Right : Hints := [(1, { ops := [(1, { mr := [1] })], kt := [5, 6], kb := [] }),
 (2, { ops := [(1, { mr := [1] }), (5, { mr := [1] }), (10, { mr := [1] })], kt := [8, 9, 10, 11, 12, 13, 14, 15, 16, 17, 18, 19, 20], kb := [] }),
 (3, { ops := [(1, { mr := [1] })], kt := [21, 22], kb := [] }),
 (4, { ops := [(1, { mr := [1] })], kt := [3, 24, 25, 26, 27, 28, 29], kb := [] }),
 (5, { ops := [(1, { mr := [1] }), (8, { mr := [1] })], kt := [30, 31, 32, 33, 34, 35, 36, 37, 38, 39, 40, 41], kb := [] }),
 (6, { ops := [(1, { mr := [1] }), (5, { mr := [1] }), (10, { mr := [1] }), (15, { mr := [1] })], kt := [42, 43, 44, 45, 46, 47, 48, 49, 50, 51, 52, 53, 54, 55, 56, 57, 58, 59], kb := [] })]
def c_pref09_Right (F : Nat → FuncId) : AFun := { nparams := 1, ntmps := 60, results := [.tmp 2], body :=
 (.seq
 (.reg [⟨(some 1), [], [.t 0], [], [1], .box, none⟩,
 ⟨(some 2), [], [.c (.bool false)], [], [], .cp, none⟩] [] [])
 (.seq
 (.seq
 (.reg [⟨(some 5), [], [.t 1], [], [], .faddr 0, none⟩,
 ⟨(some 6), [], [.t 5], [1], [], .load false 1, none⟩,
 ⟨(some 7), [], [.t 6, .c (.int .i64 1)], [], [], .bini .eql, none⟩] [5, 6] [])
 (.cond (.t 7)
 (.seq
 (.reg [⟨(some 8), [], [.t 1], [], [], .faddr 2, none⟩,
 ⟨(some 9), [], [.t 8], [1], [], .load false 1, none⟩,
 ⟨(some 10), [], [.t 9, .c (.str [])], [], [], .bins .eql, none⟩,
 ⟨(some 11), [], [.t 10], [], [], .cp, none⟩,
 ⟨(some 12), [], [.t 1], [], [], .faddr 1, some (11, true)⟩,
 ⟨(some 13), [], [.t 12], [1], [], .load false 1, some (11, true)⟩,
 ⟨(some 14), [], [.t 13, .c (.int .i64 (-2147483647))], [], [], .bini .geq, some (11, true)⟩,
 ⟨(some 15), [], [.t 11, .t 14, .c (.bool false)], [], [], .pick, none⟩,
 ⟨(some 16), [], [.t 15], [], [], .cp, none⟩,
 ⟨(some 17), [], [.t 1], [], [], .faddr 1, some (16, true)⟩,
 ⟨(some 18), [], [.t 17], [1], [], .load false 1, some (16, true)⟩,
 ⟨(some 19), [], [.t 18, .c (.int .i64 2147483647)], [], [], .bini .leq, some (16, true)⟩,
 ⟨(some 20), [], [.t 16, .t 19, .c (.bool false)], [], [], .pick, none⟩,
 ⟨(some 2), [20], [.t 20], [], [], .mv, none⟩] [8, 9, 10, 11, 12, 13, 14, 15, 16, 17, 18, 19, 20] [])
 .ret)
 .skip))
 (.seq
 (.seq
 (.reg [⟨(some 21), [], [.t 1], [], [], .faddr 0, none⟩,
 ⟨(some 22), [], [.t 21], [1], [], .load false 1, none⟩,
 ⟨(some 23), [], [.t 22, .c (.int .i64 2)], [], [], .bini .eql, none⟩] [21, 22] [])
 (.cond (.t 23)
 (.seq
 (.reg [⟨(some 25), [], [.t 1], [], [], .faddr 2, none⟩,
 ⟨(some 26), [], [.t 25], [1], [], .load false 1, none⟩,
 ⟨(some 27), [], [.c (.fn (F n_pref03_Runes)), .t 26], [], [], .call 0 false, none⟩,
 ⟨(some 24), [], [.t 27], [], [], .cp, none⟩,
 ⟨(some 28), [], [.t 24], [], [], .extract 0, none⟩,
 ⟨(some 29), [], [.t 24], [], [], .extract 1, none⟩,
 ⟨(some 3), [28], [.t 28], [], [], .mv, none⟩,
 ⟨(some 4), [29], [.t 29], [], [], .mv, none⟩] [3, 24, 25, 26, 27, 28, 29] [])
 (.seq
 (.reg [⟨(some 30), [], [.t 1], [], [], .faddr 1, none⟩,
 ⟨(some 31), [], [.t 30], [1], [], .load false 1, none⟩,
 ⟨(some 32), [], [.t 31, .c (.int .i64 0)], [], [], .bini .eql, none⟩,
 ⟨(some 33), [], [.t 32], [], [], .cp, none⟩,
 ⟨(some 34), [], [.t 4], [], [], .cp, some (33, true)⟩,
 ⟨(some 35), [], [.t 33, .t 34, .c (.bool false)], [], [], .pick, none⟩,
 ⟨(some 36), [], [.t 35], [], [], .cp, none⟩,
 ⟨(some 37), [], [.t 1], [], [], .faddr 2, some (36, true)⟩,
 ⟨(some 38), [], [.t 37], [1], [], .load false 1, some (36, true)⟩,
 ⟨(some 39), [], [.t 38], [], [], .len true, some (36, true)⟩,
 ⟨(some 40), [], [.t 39, .c (.int .i64 64)], [], [], .bini .leq, some (36, true)⟩,
 ⟨(some 41), [], [.t 36, .t 40, .c (.bool false)], [], [], .pick, none⟩,
 ⟨(some 2), [41], [.t 41], [], [], .mv, none⟩] [30, 31, 32, 33, 34, 35, 36, 37, 38, 39, 40, 41] [])
 .ret))
 .skip))
 (.seq
 (.reg [⟨(some 42), [], [.t 1], [], [], .faddr 0, none⟩,
 ⟨(some 43), [], [.t 42], [1], [], .load false 1, none⟩,
 ⟨(some 44), [], [.t 43, .c (.int .i64 3)], [], [], .bini .eql, none⟩,
 ⟨(some 45), [], [.t 44], [], [], .cp, none⟩,
 ⟨(some 46), [], [.t 1], [], [], .faddr 2, some (45, true)⟩,
 ⟨(some 47), [], [.t 46], [1], [], .load false 1, some (45, true)⟩,
 ⟨(some 48), [], [.t 47, .c (.str [])], [], [], .bins .eql, some (45, true)⟩,
 ⟨(some 49), [], [.t 45, .t 48, .c (.bool false)], [], [], .pick, none⟩,
 ⟨(some 50), [], [.t 49], [], [], .cp, none⟩,
 ⟨(some 51), [], [.t 1], [], [], .faddr 1, some (50, true)⟩,
 ⟨(some 52), [], [.t 51], [1], [], .load false 1, some (50, true)⟩,
 ⟨(some 53), [], [.t 52, .c (.int .i64 0)], [], [], .bini .geq, some (50, true)⟩,
 ⟨(some 54), [], [.t 50, .t 53, .c (.bool false)], [], [], .pick, none⟩,
 ⟨(some 55), [], [.t 54], [], [], .cp, none⟩,
 ⟨(some 56), [], [.t 1], [], [], .faddr 1, some (55, true)⟩,
 ⟨(some 57), [], [.t 56], [1], [], .load false 1, some (55, true)⟩,
 ⟨(some 58), [], [.t 57, .c (.int .i64 1)], [], [], .bini .leq, some (55, true)⟩,
 ⟨(some 59), [], [.t 55, .t 58, .c (.bool false)], [], [], .pick, none⟩,
 ⟨(some 2), [59], [.t 59], [], [], .mv, none⟩] [42, 43, 44, 45, 46, 47, 48, 49, 50, 51, 52, 53, 54, 55, 56, 57, 58, 59] [])
 .ret)))) }

def H_dot_Refs : Hints := [(1, { ops := [(1, { mr := [2] }), (3, { mr := [3] }), (6, { mr := [2] }), (8, { mr := [3] })], kt := [5, 6, 7, 8, 9, 10, 11, 12, 13, 14, 15, 16], kb := [] })]
def c_dot_Refs (F : Nat → FuncId) : AFun := { nparams := 2, ntmps := 17, results := [.tmp 4], body :=
 (.seq
 (.reg [⟨(some 2), [], [.t 0], [], [2], .box, none⟩,
 ⟨(some 3), [], [.t 1], [], [3], .box, none⟩,
 ⟨(some 4), [], [.c (.int .i64 0)], [], [], .cp, none⟩] [] [])
 (.seq
 (.reg [⟨(some 5), [], [.t 2], [], [], .faddr 0, none⟩,
 ⟨(some 6), [], [.t 5], [2], [], .load true 2, none⟩,
 ⟨(some 7), [], [.t 3], [], [], .faddr 0, none⟩,
 ⟨(some 8), [], [.t 7], [3], [], .load true 2, none⟩,
 ⟨(some 9), [], [.c (.fn (F n_dot_Compare)), .t 6, .t 8], [], [], .call 0 false, none⟩,
 ⟨(some 10), [], [.t 2], [], [], .faddr 2, none⟩,
 ⟨(some 11), [], [.t 10], [2], [], .load false 1, none⟩,
 ⟨(some 12), [], [.t 3], [], [], .faddr 2, none⟩,
 ⟨(some 13), [], [.t 12], [3], [], .load false 1, none⟩,
 ⟨(some 14), [], [.c (.fn (F n_cmp_Compare_int)), .t 11, .t 13], [], [], .call 0 false, none⟩,
 ⟨(some 15), [], [.t 9, .t 14], [], [], .bslice 1 [.int .i64 0, .int .i64 0] [(0, 1), (1, 1)], none⟩,
 ⟨(some 16), [], [.c (.fn (F n_cmp_Or_int)), .t 15], [], [], .call 0 false, none⟩,
 ⟨(some 4), [16], [.t 16], [], [], .mv, none⟩] [5, 6, 7, 8, 9, 10, 11, 12, 13, 14, 15, 16] [])
 .ret)) }

def H_op_valued : Hints := [(1, { ops := [(1, { mr := [1] }), (5, { mr := [1] })], kt := [3, 4, 5, 6, 7, 8, 9], kb := [] }),
 (2, { ops := [(1, { mr := [1] })], kt := [11, 12, 13, 14], kb := [] }),
 (3, { ops := [(1, { mr := [1] })], kt := [15, 16, 17], kb := [] })]
def c_op_valued (F : Nat → FuncId) : AFun := { nparams := 1, ntmps := 18, results := [.tmp 2], body :=
 (.seq
 (.reg [⟨(some 1), [], [.t 0], [], [1], .box, none⟩,
 ⟨(some 2), [], [.c (.bool false)], [], [], .cp, none⟩] [] [])
 (.seq
 (.seq
 (.reg [⟨(some 3), [], [.t 1], [], [], .faddr 0, none⟩,
 ⟨(some 4), [], [.t 3], [1], [], .load false 1, none⟩,
 ⟨(some 5), [], [.t 4, .c (.int .i64 3)], [], [], .bini .eql, none⟩,
 ⟨(some 6), [], [.t 5], [], [], .cp, none⟩,
 ⟨(some 7), [], [.t 1], [], [], .faddr 0, some (6, false)⟩,
 ⟨(some 8), [], [.t 7], [1], [], .load false 1, some (6, false)⟩,
 ⟨(some 9), [], [.t 8, .c (.int .i64 5)], [], [], .bini .eql, some (6, false)⟩,
 ⟨(some 10), [], [.t 6, .c (.bool true), .t 9], [], [], .pick, none⟩] [3, 4, 5, 6, 7, 8, 9] [])
 (.cond (.t 10)
 (.seq
 (.reg [⟨(some 11), [], [.t 1], [], [], .faddr 2, none⟩,
 ⟨(some 12), [], [.t 11], [1], [], .load true 3, none⟩,
 ⟨(some 13), [], [], [], [], .build [.int .i64 0, .int .i64 0, .str []] [], none⟩,
 ⟨(some 14), [], [.t 12, .t 13], [], [], .eqa [.i, .i, .s] false, none⟩,
 ⟨(some 2), [14], [.t 14], [], [], .mv, none⟩] [11, 12, 13, 14] [])
 .ret)
 .skip))
 (.seq
 (.reg [⟨(some 15), [], [.t 1], [], [], .faddr 2, none⟩,
 ⟨(some 16), [], [.t 15], [1], [], .load true 3, none⟩,
 ⟨(some 17), [], [.c (.fn (F n_value_Right)), .t 16], [], [], .call 0 false, none⟩,
 ⟨(some 2), [17], [.t 17], [], [], .mv, none⟩] [15, 16, 17] [])
 .ret))) }

def H_op_amount : Hints := [(1, { ops := [(1, { mr := [1] })], kt := [3, 4], kb := [] }),
 (2, { ops := [(1, { mr := [1] }), (5, { mr := [1] }), (10, { mr := [1] })], kt := [6, 7, 8, 9, 10, 11, 12, 13, 14, 15, 16, 17, 18], kb := [] }),
 (3, { ops := [(1, { mr := [1] })], kt := [19, 20, 21], kb := [] })]
def c_op_amount (F : Nat → FuncId) : AFun := { nparams := 1, ntmps := 22, results := [.tmp 2], body :=
 (.seq
 (.reg [⟨(some 1), [], [.t 0], [], [1], .box, none⟩,
 ⟨(some 2), [], [.c (.bool false)], [], [], .cp, none⟩] [] [])
 (.seq
 (.seq
 (.reg [⟨(some 3), [], [.t 1], [], [], .faddr 0, none⟩,
 ⟨(some 4), [], [.t 3], [1], [], .load false 1, none⟩,
 ⟨(some 5), [], [.t 4, .c (.int .i64 3)], [], [], .bini .eql, none⟩] [3, 4] [])
 (.cond (.t 5)
 (.seq
 (.reg [⟨(some 6), [], [.t 1], [], [], .faddr 5, none⟩,
 ⟨(some 7), [], [.t 6], [1], [], .load false 1, none⟩,
 ⟨(some 8), [], [.t 7, .c (.int .i64 0)], [], [], .bini .neq, none⟩,
 ⟨(some 9), [], [.t 8], [], [], .cp, none⟩,
 ⟨(some 10), [], [.t 1], [], [], .faddr 5, some (9, true)⟩,
 ⟨(some 11), [], [.t 10], [1], [], .load false 1, some (9, true)⟩,
 ⟨(some 12), [], [.t 11, .c (.int .i64 (-2147483647))], [], [], .bini .geq, some (9, true)⟩,
 ⟨(some 13), [], [.t 9, .t 12, .c (.bool false)], [], [], .pick, none⟩,
 ⟨(some 14), [], [.t 13], [], [], .cp, none⟩,
 ⟨(some 15), [], [.t 1], [], [], .faddr 5, some (14, true)⟩,
 ⟨(some 16), [], [.t 15], [1], [], .load false 1, some (14, true)⟩,
 ⟨(some 17), [], [.t 16, .c (.int .i64 2147483647)], [], [], .bini .leq, some (14, true)⟩,
 ⟨(some 18), [], [.t 14, .t 17, .c (.bool false)], [], [], .pick, none⟩,
 ⟨(some 2), [18], [.t 18], [], [], .mv, none⟩] [6, 7, 8, 9, 10, 11, 12, 13, 14, 15, 16, 17, 18] [])
 .ret)
 .skip))
 (.seq
 (.reg [⟨(some 19), [], [.t 1], [], [], .faddr 5, none⟩,
 ⟨(some 20), [], [.t 19], [1], [], .load false 1, none⟩,
 ⟨(some 21), [], [.t 20, .c (.int .i64 0)], [], [], .bini .eql, none⟩,
 ⟨(some 2), [21], [.t 21], [], [], .mv, none⟩] [19, 20, 21] [])
 .ret))) }

def H_pref04_Refs : Hints := [(1, { ops := [(1, { mr := [2] }), (3, { mr := [3] })], kt := [5, 6, 7, 8, 9], kb := [] }),
 (2, { ops := [(1, { mr := [2] }), (3, { mr := [3] })], kt := [11, 12, 13, 14, 15], kb := [] }),
 (3, { ops := [(1, { mr := [2] }), (3, { mr := [3] })], kt := [16, 17, 18, 19, 20], kb := [] })]
def c_pref04_Refs (F : Nat → FuncId) : AFun := { nparams := 2, ntmps := 21, results := [.tmp 4], body :=
 (.seq
 (.reg [⟨(some 2), [], [.t 0], [], [2], .box, none⟩,
 ⟨(some 3), [], [.t 1], [], [3], .box, none⟩,
 ⟨(some 4), [], [.c (.int .i64 0)], [], [], .cp, none⟩] [] [])
 (.seq
 (.seq
 (.reg [⟨(some 5), [], [.t 2], [], [], .faddr 0, none⟩,
 ⟨(some 6), [], [.t 5], [2], [], .load true 2, none⟩,
 ⟨(some 7), [], [.t 3], [], [], .faddr 0, none⟩,
 ⟨(some 8), [], [.t 7], [3], [], .load true 2, none⟩,
 ⟨(some 9), [], [.c (.fn (F n_pref04_Compare)), .t 6, .t 8], [], [], .call 0 false, none⟩,
 ⟨(some 10), [], [.t 9, .c (.int .i64 0)], [], [], .bini .neq, none⟩] [5, 6, 7, 8, 9] [])
 (.cond (.t 10)
 (.seq
 (.reg [⟨(some 11), [], [.t 2], [], [], .faddr 0, none⟩,
 ⟨(some 12), [], [.t 11], [2], [], .load true 2, none⟩,
 ⟨(some 13), [], [.t 3], [], [], .faddr 0, none⟩,
 ⟨(some 14), [], [.t 13], [3], [], .load true 2, none⟩,
 ⟨(some 15), [], [.c (.fn (F n_pref04_Compare)), .t 12, .t 14], [], [], .call 0 false, none⟩,
 ⟨(some 4), [15], [.t 15], [], [], .mv, none⟩] [11, 12, 13, 14, 15] [])
 .ret)
 .skip))
 (.seq
 (.reg [⟨(some 16), [], [.t 2], [], [], .faddr 2, none⟩,
 ⟨(some 17), [], [.t 16], [2], [], .load false 1, none⟩,
 ⟨(some 18), [], [.t 3], [], [], .faddr 2, none⟩,
 ⟨(some 19), [], [.t 18], [3], [], .load false 1, none⟩,
 ⟨(some 20), [], [.c (.fn (F n_pref04_ints)), .t 17, .t 19], [], [], .call 0 false, none⟩,
 ⟨(some 4), [20], [.t 20], [], [], .mv, none⟩] [16, 17, 18, 19, 20] [])
 .ret))) }

def H_slices_Equal_api_Ref_api_Ref : Hints := [(1, { ops := [], kt := [6, 7, 8, 9], kb := [] }),
 (3, { ops := [], kt := [11], kb := [] }),
 (5, { ops := [], kt := [15], kb := [] }),
 (6, { ops := [], kt := [16, 17, 18, 19, 20, 21, 22, 23], kb := [] }),
 (8, { ops := [], kt := [5, 14, 15, 16, 17, 18, 19, 20, 21, 22, 23, 24, 25], kb := [] })]
def c_slices_Equal_api_Ref_api_Ref (F : Nat → FuncId) : AFun := { nparams := 2, ntmps := 26, results := [.tmp 4], body :=
 (.seq
 (.reg [⟨(some 4), [], [.c (.bool false)], [], [], .cp, none⟩] [] [])
 (.seq
 (.seq
 (.reg [⟨(some 6), [], [.t 0], [], [], .cp, none⟩,
 ⟨(some 7), [], [.t 6], [], [], .len false, none⟩,
 ⟨(some 8), [], [.t 1], [], [], .cp, none⟩,
 ⟨(some 9), [], [.t 8], [], [], .len false, none⟩,
 ⟨(some 10), [], [.t 7, .t 9], [], [], .bini .neq, none⟩] [6, 7, 8, 9] [])
 (.cond (.t 10)
 (.seq
 (.reg [⟨(some 4), [], [.c (.bool false)], [], [], .cp, none⟩] [] [])
 .ret)
 .skip))
 (.seq
 (.seq
 (.reg [⟨(some 11), [], [.t 0], [], [], .cp, none⟩,
 ⟨(some 12), [], [.t 11], [], [], .len false, none⟩,
 ⟨(some 13), [], [.c (.int .i64 0)], [], [], .cp, none⟩] [11] [])
 (.block 0
 (.loop
 (.seq
 (.reg [⟨(some 14), [], [.t 13, .t 12], [], [], .bini .lss, none⟩] [] [])
 (.seq
 (.cond (.t 14)
 .skip
 (.exit 0))
 (.seq
 (.block 1
 (.seq
 (.reg [⟨(some 15), [], [.t 13], [], [], .cp, none⟩,
 ⟨(some 5), [15], [.t 15], [], [], .mv, none⟩] [15] [])
 (.seq
 (.reg [⟨(some 16), [], [.t 0], [], [], .cp, none⟩,
 ⟨(some 17), [], [.t 5], [], [], .cp, none⟩,
 ⟨(some 18), [], [.t 16, .t 17], [], [], .iaddr none 3, none⟩,
 ⟨(some 19), [], [.t 18], [], [], .load true 3, none⟩,
 ⟨(some 20), [], [.t 1], [], [], .cp, none⟩,
 ⟨(some 21), [], [.t 5], [], [], .cp, none⟩,
 ⟨(some 22), [], [.t 20, .t 21], [], [], .iaddr none 3, none⟩,
 ⟨(some 23), [], [.t 22], [], [], .load true 3, none⟩,
 ⟨(some 24), [], [.t 19, .t 23], [], [], .eqa [.i, .i, .i] true, none⟩] [16, 17, 18, 19, 20, 21, 22, 23] [])
 (.cond (.t 24)
 (.seq
 (.reg [⟨(some 4), [], [.c (.bool false)], [], [], .cp, none⟩] [] [])
 .ret)
 .skip))))
 (.reg [⟨(some 25), [], [.t 13, .c (.int .i64 1)], [], [], .bini .add, none⟩,
 ⟨(some 13), [], [.t 25], [], [], .cp, none⟩] [5, 14, 15, 16, 17, 18, 19, 20, 21, 22, 23, 24, 25] [])))))))
 (.seq
 (.reg [⟨(some 4), [], [.c (.bool true)], [], [], .cp, none⟩] [] [])
 .ret)))) }

def H_value_Fold : Hints := [(1, { ops := [], kt := [3], kb := [] }),
 (2, { ops := [], kt := [5, 6, 7], kb := [] }),
 (3, { ops := [], kt := [8, 9], kb := [] })]
def c_value_Fold (F : Nat → FuncId) : AFun := { nparams := 1, ntmps := 10, results := [.tmp 2], body :=
 (.seq
 (.reg [⟨(some 2), [], [.c (.int .i64 0)], [], [], .cp, none⟩] [] [])
 (.seq
 (.seq
 (.reg [⟨(some 3), [], [.t 0], [], [], .cp, none⟩,
 ⟨(some 4), [], [.t 3, .c (.int .i64 0)], [], [], .bini .lss, none⟩] [3] [])
 (.cond (.t 4)
 (.seq
 (.reg [⟨(some 5), [], [.t 0], [], [], .cp, none⟩,
 ⟨(some 6), [], [.c (.int .i64 (-2)), .t 5], [], [], .bini .mul, none⟩,
 ⟨(some 7), [], [.t 6, .c (.int .i64 1)], [], [], .bini .sub, none⟩,
 ⟨(some 2), [7], [.t 7], [], [], .mv, none⟩] [5, 6, 7] [])
 .ret)
 .skip))
 (.seq
 (.reg [⟨(some 8), [], [.t 0], [], [], .cp, none⟩,
 ⟨(some 9), [], [.c (.int .i64 2), .t 8], [], [], .bini .mul, none⟩,
 ⟨(some 2), [9], [.t 9], [], [], .mv, none⟩] [8, 9] [])
 .ret))) }

def H_value_Code : Hints := [(1, { ops := [(1, { mr := [1] })], kt := [3, 4], kb := [] }),
 (2, { ops := [(1, { mr := [1] }), (4, { mr := [1] })], kt := [6, 7, 8, 9, 10, 11, 12], kb := [] }),
 (3, { ops := [(1, { mr := [1] }), (4, { mr := [1] })], kt := [13, 14, 15, 16, 17, 18, 19, 20], kb := [] })]
def c_value_Code (F : Nat → FuncId) : AFun := { nparams := 1, ntmps := 21, results := [.tmp 2], body :=
 (.seq
 (.reg [⟨(some 1), [], [.t 0], [], [1], .box, none⟩,
 ⟨(some 2), [], [.c (.str [])], [], [], .cp, none⟩] [] [])
 (.seq
 (.seq
 (.reg [⟨(some 3), [], [.t 1], [], [], .faddr 0, none⟩,
 ⟨(some 4), [], [.t 3], [1], [], .load false 1, none⟩,
 ⟨(some 5), [], [.t 4, .c (.int .i64 2)], [], [], .bini .eql, none⟩] [3, 4] [])
 (.cond (.t 5)
 (.seq
 (.reg [⟨(some 6), [], [.t 1], [], [], .faddr 0, none⟩,
 ⟨(some 7), [], [.t 6], [1], [], .load false 1, none⟩,
 ⟨(some 8), [], [.c (.fn (F n_pack_Int)), .t 7], [], [], .call 0 false, none⟩,
 ⟨(some 9), [], [.t 1], [], [], .faddr 2, none⟩,
 ⟨(some 10), [], [.t 9], [1], [], .load false 1, none⟩,
 ⟨(some 11), [], [.c (.fn (F n_pack_Text)), .t 10], [], [], .call 0 false, none⟩,
 ⟨(some 12), [], [.t 8, .t 11], [], [], .bins .add, none⟩,
 ⟨(some 2), [12], [.t 12], [], [], .mv, none⟩] [6, 7, 8, 9, 10, 11, 12] [])
 .ret)
 .skip))
 (.seq
 (.reg [⟨(some 13), [], [.t 1], [], [], .faddr 0, none⟩,
 ⟨(some 14), [], [.t 13], [1], [], .load false 1, none⟩,
 ⟨(some 15), [], [.c (.fn (F n_pack_Int)), .t 14], [], [], .call 0 false, none⟩,
 ⟨(some 16), [], [.t 1], [], [], .faddr 1, none⟩,
 ⟨(some 17), [], [.t 16], [1], [], .load false 1, none⟩,
 ⟨(some 18), [], [.c (.fn (F n_value_Fold)), .t 17], [], [], .call 0 false, none⟩,
 ⟨(some 19), [], [.c (.fn (F n_pack_Int)), .t 18], [], [], .call 0 false, none⟩,
 ⟨(some 20), [], [.t 15, .t 19], [], [], .bins .add, none⟩,
 ⟨(some 2), [20], [.t 20], [], [], .mv, none⟩] [13, 14, 15, 16, 17, 18, 19, 20] [])
 .ret))) }

def H_dot_Code : Hints := [(1, { ops := [(1, { mr := [1] }), (4, { mr := [1] })], kt := [3, 4, 5, 6, 7, 8, 9], kb := [] })]
def c_dot_Code (F : Nat → FuncId) : AFun := { nparams := 1, ntmps := 10, results := [.tmp 2], body :=
 (.seq
 (.reg [⟨(some 1), [], [.t 0], [], [1], .box, none⟩,
 ⟨(some 2), [], [.c (.str [])], [], [], .cp, none⟩] [] [])
 (.seq
 (.reg [⟨(some 3), [], [.t 1], [], [], .faddr 0, none⟩,
 ⟨(some 4), [], [.t 3], [1], [], .load false 1, none⟩,
 ⟨(some 5), [], [.c (.fn (F n_pack_Int)), .t 4], [], [], .call 0 false, none⟩,
 ⟨(some 6), [], [.t 1], [], [], .faddr 1, none⟩,
 ⟨(some 7), [], [.t 6], [1], [], .load false 1, none⟩,
 ⟨(some 8), [], [.c (.fn (F n_pack_Int)), .t 7], [], [], .call 0 false, none⟩,
 ⟨(some 9), [], [.t 5, .t 8], [], [], .bins .add, none⟩,
 ⟨(some 2), [9], [.t 9], [], [], .mv, none⟩] [3, 4, 5, 6, 7, 8, 9] [])
 .ret)) }

def H_pref09_Fold : Hints := [(1, { ops := [], kt := [3], kb := [] }),
 (2, { ops := [], kt := [5, 6, 7, 8, 9], kb := [] }),
 (3, { ops := [], kt := [10, 11, 12], kb := [] })]
def c_pref09_Fold (F : Nat → FuncId) : AFun := { nparams := 1, ntmps := 13, results := [.tmp 2], body :=
 (.seq
 (.reg [⟨(some 2), [], [.c (.int .i64 0)], [], [], .cp, none⟩] [] [])
 (.seq
 (.seq
 (.reg [⟨(some 3), [], [.t 0], [], [], .cp, none⟩,
 ⟨(some 4), [], [.t 3, .c (.int .i64 0)], [], [], .bini .lss, none⟩] [3] [])
 (.cond (.t 4)
 (.seq
 (.reg [⟨(some 5), [], [.t 0], [], [], .cp, none⟩,
 ⟨(some 6), [], [.c (.int .i64 0), .t 5], [], [], .bini .sub, none⟩,
 ⟨(some 7), [], [.t 0], [], [], .cp, none⟩,
 ⟨(some 8), [], [.t 6, .t 7], [], [], .bini .sub, none⟩,
 ⟨(some 9), [], [.t 8, .c (.int .i64 1)], [], [], .bini .sub, none⟩,
 ⟨(some 2), [9], [.t 9], [], [], .mv, none⟩] [5, 6, 7, 8, 9] [])
 .ret)
 .skip))
 (.seq
 (.reg [⟨(some 10), [], [.t 0], [], [], .cp, none⟩,
 ⟨(some 11), [], [.t 0], [], [], .cp, none⟩,
 ⟨(some 12), [], [.t 10, .t 11], [], [], .bini .add, none⟩,
 ⟨(some 2), [12], [.t 12], [], [], .mv, none⟩] [10, 11, 12] [])
 .ret))) }

def H_pref09_Code : Hints := [(1, { ops := [(1, { mr := [1] })], kt := [3, 4], kb := [] }),
 (2, { ops := [(2, { mr := [1] })], kt := [6, 7, 8, 9, 10], kb := [] }),
 (3, { ops := [(1, { mr := [1] }), (4, { mr := [1] })], kt := [11, 12, 13, 14, 15, 16, 17, 18], kb := [] })]
def c_pref09_Code (F : Nat → FuncId) : AFun := { nparams := 1, ntmps := 19, results := [.tmp 2], body :=
 (.seq
 (.reg [⟨(some 1), [], [.t 0], [], [1], .box, none⟩,
 ⟨(some 2), [], [.c (.str [])], [], [], .cp, none⟩] [] [])
 (.seq
 (.seq
 (.reg [⟨(some 3), [], [.t 1], [], [], .faddr 0, none⟩,
 ⟨(some 4), [], [.t 3], [1], [], .load false 1, none⟩,
 ⟨(some 5), [], [.t 4, .c (.int .i64 2)], [], [], .bini .eql, none⟩] [3, 4] [])
 (.cond (.t 5)
 (.seq
 (.reg [⟨(some 6), [], [.c (.fn (F n_pref02_Int)), .c (.int .i64 2)], [], [], .call 0 false, none⟩,
 ⟨(some 7), [], [.t 1], [], [], .faddr 2, none⟩,
 ⟨(some 8), [], [.t 7], [1], [], .load false 1, none⟩,
 ⟨(some 9), [], [.c (.fn (F n_pref02_Text)), .t 8], [], [], .call 0 false, none⟩,
 ⟨(some 10), [], [.t 6, .t 9], [], [], .bins .add, none⟩,
 ⟨(some 2), [10], [.t 10], [], [], .mv, none⟩] [6, 7, 8, 9, 10] [])
 .ret)
 .skip))
 (.seq
 (.reg [⟨(some 11), [], [.t 1], [], [], .faddr 0, none⟩,
 ⟨(some 12), [], [.t 11], [1], [], .load false 1, none⟩,
 ⟨(some 13), [], [.c (.fn (F n_pref02_Int)), .t 12], [], [], .call 0 false, none⟩,
 ⟨(some 14), [], [.t 1], [], [], .faddr 1, none⟩,
 ⟨(some 15), [], [.t 14], [1], [], .load false 1, none⟩,
 ⟨(some 16), [], [.c (.fn (F n_pref09_Fold)), .t 15], [], [], .call 0 false, none⟩,
 ⟨(some 17), [], [.c (.fn (F n_pref02_Int)), .t 16], [], [], .call 0 false, none⟩,
 ⟨(some 18), [], [.t 13, .t 17], [], [], .bins .add, none⟩,
 ⟨(some 2), [18], [.t 18], [], [], .mv, none⟩] [11, 12, 13, 14, 15, 16, 17, 18] [])
 .ret))) }

def H_pref04_Code : Hints := [(1, { ops := [(1, { mr := [1] }), (4, { mr := [1] })], kt := [3, 4, 5, 6, 7, 8, 9], kb := [] })]
def c_pref04_Code (F : Nat → FuncId) : AFun := { nparams := 1, ntmps := 10, results := [.tmp 2], body :=
 (.seq
 (.reg [⟨(some 1), [], [.t 0], [], [1], .box, none⟩,
 ⟨(some 2), [], [.c (.str [])], [], [], .cp, none⟩] [] [])
 (.seq
 (.reg [⟨(some 3), [], [.t 1], [], [], .faddr 0, none⟩,
 ⟨(some 4), [], [.t 3], [1], [], .load false 1, none⟩,
 ⟨(some 5), [], [.c (.fn (F n_pref02_Int)), .t 4], [], [], .call 0 false, none⟩,
 ⟨(some 6), [], [.t 1], [], [], .faddr 1, none⟩,
 ⟨(some 7), [], [.t 6], [1], [], .load false 1, none⟩,
 ⟨(some 8), [], [.c (.fn (F n_pref02_Int)), .t 7], [], [], .call 0 false, none⟩,
 ⟨(some 9), [], [.t 5, .t 8], [], [], .bins .add, none⟩,
 ⟨(some 2), [9], [.t 9], [], [], .mv, none⟩] [3, 4, 5, 6, 7, 8, 9] [])
 .ret)) }

def H_value_Unfold : Hints := [(1, { ops := [], kt := [3, 4], kb := [] }),
 (2, { ops := [], kt := [6, 7, 8, 9], kb := [] }),
 (3, { ops := [], kt := [10, 11], kb := [] })]
def c_value_Unfold (F : Nat → FuncId) : AFun := { nparams := 1, ntmps := 12, results := [.tmp 2], body :=
 (.seq
 (.reg [⟨(some 2), [], [.c (.int .i64 0)], [], [], .cp, none⟩] [] [])
 (.seq
 (.seq
 (.reg [⟨(some 3), [], [.t 0], [], [], .cp, none⟩,
 ⟨(some 4), [], [.t 3, .c (.int .i64 2)], [], [], .bini .rem, none⟩,
 ⟨(some 5), [], [.t 4, .c (.int .i64 1)], [], [], .bini .eql, none⟩] [3, 4] [])
 (.cond (.t 5)
 (.seq
 (.reg [⟨(some 6), [], [.t 0], [], [], .cp, none⟩,
 ⟨(some 7), [], [.t 6, .c (.int .i64 1)], [], [], .bini .add, none⟩,
 ⟨(some 8), [], [.t 7], [], [], .unint .neg, none⟩,
 ⟨(some 9), [], [.t 8, .c (.int .i64 2)], [], [], .bini .quo, none⟩,
 ⟨(some 2), [9], [.t 9], [], [], .mv, none⟩] [6, 7, 8, 9] [])
 .ret)
 .skip))
 (.seq
 (.reg [⟨(some 10), [], [.t 0], [], [], .cp, none⟩,
 ⟨(some 11), [], [.t 10, .c (.int .i64 2)], [], [], .bini .quo, none⟩,
 ⟨(some 2), [11], [.t 11], [], [], .mv, none⟩] [10, 11] [])
 .ret))) }

def H_value_Read : Hints := [(1, { ops := [(1, { mw := [0], nref := 1 }), (4, { mw := [3] })], kt := [4, 5, 6], kb := [] }),
 (2, { ops := [(1, { mr := [3] })], kt := [7, 8], kb := [] }),
 (3, { ops := [(1, { mw := [0], nref := 1 }), (3, { mw := [3] })], kt := [10, 11, 12], kb := [] }),
 (4, { ops := [(1, { mw := [0], nref := 1 }), (4, { mw := [3] })], kt := [13, 14, 15, 16], kb := [] }),
 (5, { ops := [(1, { mw := [0], nref := 1 }), (4, { mr := [3] })], kt := [17, 18, 19, 20, 21, 22, 23], kb := [] }),
 (6, { ops := [(1, { mw := [0], nref := 1 })], kt := [25, 26], kb := [] }),
 (7, { ops := [(1, { mw := [0], nref := 1 })], kt := [27, 28], kb := [] }),
 (8, { ops := [(1, { mw := [2] })], kt := [30], kb := [] }),
 (9, { ops := [(0, { mr := [3] }), (1, { mw := [2] })], kt := [31], kb := [] })]
def c_value_Read (F : Nat → FuncId) : AFun := { nparams := 1, ntmps := 32, results := [.cell 2 true 3], body :=
 (.seq
 (.reg [⟨(some 2), [], [], [], [2], .alloc [.val (.int .i64 0), .val (.int .i64 0), .val (.str [])], none⟩] [] [])
 (.seq
 (.reg [⟨(some 4), [], [.t 0], [], [], .cp, none⟩,
 ⟨(some 5), [], [.c (.fn (F n_pack_Reader_Int)), .t 4], [], [0], .call 1 false, none⟩,
 ⟨(some 6), [], [.t 5], [], [], .build [.int .i64 0, .int .i64 0, .str []] [(0, 1)], none⟩,
 ⟨(some 3), [], [], [], [3], .alloc [.val (.int .i64 0), .val (.int .i64 0), .val (.str [])], none⟩,
 ⟨none, [6], [.t 3, .t 6], [], [3], .store true 3, none⟩] [4, 5, 6] [])
 (.seq
 (.seq
 (.reg [⟨(some 7), [], [.t 3], [], [], .faddr 0, none⟩,
 ⟨(some 8), [], [.t 7], [3], [], .load false 1, none⟩,
 ⟨(some 9), [], [.t 8, .c (.int .i64 2)], [], [], .bini .eql, none⟩] [7, 8] [])
 (.cond (.t 9)
 (.reg [⟨(some 10), [], [.t 0], [], [], .cp, none⟩,
 ⟨(some 11), [], [.c (.fn (F n_pack_Reader_Text)), .t 10], [], [0], .call 1 false, none⟩,
 ⟨(some 12), [], [.t 3], [], [], .faddr 2, none⟩,
 ⟨none, [11], [.t 12, .t 11], [], [3], .store false 1, none⟩] [10, 11, 12] [])
 (.reg [⟨(some 13), [], [.t 0], [], [], .cp, none⟩,
 ⟨(some 14), [], [.c (.fn (F n_pack_Reader_Int)), .t 13], [], [0], .call 1 false, none⟩,
 ⟨(some 15), [], [.c (.fn (F n_value_Unfold)), .t 14], [], [], .call 0 false, none⟩,
 ⟨(some 16), [], [.t 3], [], [], .faddr 1, none⟩,
 ⟨none, [15], [.t 16, .t 15], [], [3], .store false 1, none⟩] [13, 14, 15, 16] [])))
 (.seq
 (.seq
 (.reg [⟨(some 17), [], [.t 0], [], [], .cp, none⟩,
 ⟨(some 18), [], [.c (.fn (F n_pack_Reader_Fault)), .t 17], [], [0], .call 1 false, none⟩,
 ⟨(some 19), [], [.t 18, .c (.int .i64 0)], [], [], .bini .eql, none⟩,
 ⟨(some 20), [], [.t 19], [], [], .cp, none⟩,
 ⟨(some 21), [], [.t 3], [3], [], .load true 3, some (20, true)⟩,
 ⟨(some 22), [], [.c (.fn (F n_value_Right)), .t 21], [], [], .call 0 false, some (20, true)⟩,
 ⟨(some 23), [], [.t 22], [], [], .not, some (20, true)⟩,
 ⟨(some 24), [], [.t 20, .t 23, .c (.bool false)], [], [], .pick, none⟩] [17, 18, 19, 20, 21, 22, 23] [])
 (.cond (.t 24)
 (.reg [⟨(some 25), [], [.t 0], [], [], .cp, none⟩,
 ⟨(some 26), [], [.c (.fn (F n_pack_Reader_Fail)), .t 25, .c (.int .i64 2)], [], [0], .call 1 false, none⟩] [25, 26] [])
 .skip))
 (.seq
 (.seq
 (.reg [⟨(some 27), [], [.t 0], [], [], .cp, none⟩,
 ⟨(some 28), [], [.c (.fn (F n_pack_Reader_Fault)), .t 27], [], [0], .call 1 false, none⟩,
 ⟨(some 29), [], [.t 28, .c (.int .i64 0)], [], [], .bini .neq, none⟩] [27, 28] [])
 (.cond (.t 29)
 (.seq
 (.reg [⟨(some 30), [], [], [], [], .build [.int .i64 0, .int .i64 0, .str []] [], none⟩,
 ⟨none, [30], [.t 2, .t 30], [], [2], .store true 3, none⟩] [30] [])
 .ret)
 .skip))
 (.seq
 (.reg [⟨(some 31), [], [.t 3], [3], [], .load true 3, none⟩,
 ⟨none, [31], [.t 2, .t 31], [], [2], .store true 3, none⟩] [31] [])
 .ret)))))) }

def H_op_seen : Hints := [(0, { ops := [(0, { x := 4 })], kt := [], kb := [] }),
 (2, { ops := [(1, { mw := [0], nref := 1 })], kt := [4], kb := [] }),
 (4, { ops := [(0, { take := true }), (2, { mw := [0], nref := 1 }), (4, { mw := [0], nref := 1 })], kt := [8, 9, 10, 11, 12, 13, 14, 15], kb := [] }),
 (5, { ops := [], kt := [7, 8, 9, 10, 11, 12, 13, 14, 15, 16], kb := [] }),
 (6, { ops := [], kt := [17], kb := [] })]
def c_op_seen (F : Nat → FuncId) : AFun := { nparams := 1, ntmps := 18, results := [.tmp 2], body :=
 (.seq
 (.reg [⟨(some 2), [], [.c (.sl 3 [])], [], [], .cp, none⟩] [] [])
 (.seq
 (.reg [⟨(some 3), [], [], [], [], .nils 3, none⟩] [] [])
 (.seq
 (.seq
 (.reg [⟨(some 4), [], [.t 0], [], [], .cp, none⟩,
 ⟨(some 5), [], [.c (.fn (F n_pack_Reader_Many)), .t 4, .c (.int .i64 256)], [], [0], .call 1 false, none⟩,
 ⟨(some 6), [], [.c (.int .i64 0)], [], [], .cp, none⟩] [4] [])
 (.block 0
 (.loop
 (.seq
 (.reg [⟨(some 7), [], [.t 6, .t 5], [], [], .bini .lss, none⟩] [] [])
 (.seq
 (.cond (.t 7)
 .skip
 (.exit 0))
 (.seq
 (.block 1
 (.reg [⟨(some 8), [3], [.t 3], [], [], .mv, none⟩,
 ⟨(some 9), [], [.t 0], [], [], .cp, none⟩,
 ⟨(some 10), [], [.c (.fn (F n_dot_Read)), .t 9], [], [0], .call 1 false, none⟩,
 ⟨(some 11), [], [.t 0], [], [], .cp, none⟩,
 ⟨(some 12), [], [.c (.fn (F n_pack_Reader_Int)), .t 11], [], [0], .call 1 false, none⟩,
 ⟨(some 13), [], [.t 10, .t 12], [], [], .build [.int .i64 0, .int .i64 0, .int .i64 0] [(0, 2), (2, 1)], none⟩,
 ⟨(some 14), [], [.t 13], [], [], .bslice 3 [.int .i64 0, .int .i64 0, .int .i64 0] [(0, 3)], none⟩,
 ⟨(some 15), [8], [.t 8, .t 14], [], [], .append 3 24, none⟩,
 ⟨(some 3), [15], [.t 15], [], [], .mv, none⟩] [8, 9, 10, 11, 12, 13, 14, 15] []))
 (.reg [⟨(some 16), [], [.t 6, .c (.int .i64 1)], [], [], .bini .add, none⟩,
 ⟨(some 6), [], [.t 16], [], [], .cp, none⟩] [7, 8, 9, 10, 11, 12, 13, 14, 15, 16] [])))))))
 (.seq
 (.reg [⟨(some 17), [], [.t 3], [], [], .cp, none⟩,
 ⟨(some 2), [17], [.t 17], [], [], .mv, none⟩] [17] [])
 .ret)))) }

def H_value_Right : Hints := [(1, { ops := [(1, { mr := [1] })], kt := [5], kb := [] }),
 (2, { ops := [], kt := [8], kb := [] }),
 (3, { ops := [(1, { mr := [1] }), (5, { mr := [1] }), (10, { mr := [1] })], kt := [9, 10, 11, 12, 13, 14, 15, 16, 17, 18, 19, 20, 21], kb := [] }),
 (4, { ops := [], kt := [23], kb := [] }),
 (5, { ops := [(1, { mr := [1] })], kt := [3, 24, 25, 26, 27, 28, 29], kb := [] }),
 (6, { ops := [(3, { mr := [1] }), (8, { mr := [1] })], kt := [30, 31, 32, 33, 34, 35, 36, 37, 38, 39, 40, 41], kb := [] }),
 (7, { ops := [], kt := [43], kb := [] }),
 (8, { ops := [(1, { mr := [1] }), (5, { mr := [1] }), (9, { mr := [1] })], kt := [44, 45, 46, 47, 48, 49, 50, 51, 52, 53, 54, 55, 56], kb := [] })]
def c_value_Right (F : Nat → FuncId) : AFun := { nparams := 1, ntmps := 57, results := [.tmp 2], body :=
 (.seq
 (.reg [⟨(some 1), [], [.t 0], [], [1], .box, none⟩,
 ⟨(some 2), [], [.c (.bool false)], [], [], .cp, none⟩] [] [])
 (.seq
 (.seq
 (.reg [⟨(some 5), [], [.t 1], [], [], .faddr 0, none⟩,
 ⟨(some 6), [], [.t 5], [1], [], .load false 1, none⟩] [5] [])
 (.block 0
 (.seq
 (.reg [⟨(some 8), [], [.t 6, .c (.int .i64 1)], [], [], .bini .eql, none⟩,
 ⟨(some 7), [8], [.t 8], [], [], .mv, none⟩] [8] [])
 (.cond (.t 7)
 (.seq
 (.reg [⟨(some 9), [], [.t 1], [], [], .faddr 2, none⟩,
 ⟨(some 10), [], [.t 9], [1], [], .load false 1, none⟩,
 ⟨(some 11), [], [.t 10, .c (.str [])], [], [], .bins .eql, none⟩,
 ⟨(some 12), [], [.t 11], [], [], .cp, none⟩,
 ⟨(some 13), [], [.t 1], [], [], .faddr 1, some (12, true)⟩,
 ⟨(some 14), [], [.t 13], [1], [], .load false 1, some (12, true)⟩,
 ⟨(some 15), [], [.t 14, .c (.int .i64 (-2147483647))], [], [], .bini .geq, some (12, true)⟩,
 ⟨(some 16), [], [.t 12, .t 15, .c (.bool false)], [], [], .pick, none⟩,
 ⟨(some 17), [], [.t 16], [], [], .cp, none⟩,
 ⟨(some 18), [], [.t 1], [], [], .faddr 1, some (17, true)⟩,
 ⟨(some 19), [], [.t 18], [1], [], .load false 1, some (17, true)⟩,
 ⟨(some 20), [], [.t 19, .c (.int .i64 2147483647)], [], [], .bini .leq, some (17, true)⟩,
 ⟨(some 21), [], [.t 17, .t 20, .c (.bool false)], [], [], .pick, none⟩,
 ⟨(some 2), [21], [.t 21], [], [], .mv, none⟩] [9, 10, 11, 12, 13, 14, 15, 16, 17, 18, 19, 20, 21] [])
 .ret)
 (.seq
 (.reg [⟨(some 23), [], [.t 6, .c (.int .i64 2)], [], [], .bini .eql, none⟩,
 ⟨(some 22), [23], [.t 23], [], [], .mv, none⟩] [23] [])
 (.cond (.t 22)
 (.seq
 (.reg [⟨(some 25), [], [.t 1], [], [], .faddr 2, none⟩,
 ⟨(some 26), [], [.t 25], [1], [], .load false 1, none⟩,
 ⟨(some 27), [], [.c (.fn (F n_name_Runes)), .t 26], [], [], .call 0 false, none⟩,
 ⟨(some 24), [], [.t 27], [], [], .cp, none⟩,
 ⟨(some 28), [], [.t 24], [], [], .extract 0, none⟩,
 ⟨(some 29), [], [.t 24], [], [], .extract 1, none⟩,
 ⟨(some 3), [28], [.t 28], [], [], .mv, none⟩,
 ⟨(some 4), [29], [.t 29], [], [], .mv, none⟩] [3, 24, 25, 26, 27, 28, 29] [])
 (.seq
 (.reg [⟨(some 30), [], [.t 4], [], [], .cp, none⟩,
 ⟨(some 31), [], [.t 30], [], [], .cp, none⟩,
 ⟨(some 32), [], [.t 1], [], [], .faddr 1, some (31, true)⟩,
 ⟨(some 33), [], [.t 32], [1], [], .load false 1, some (31, true)⟩,
 ⟨(some 34), [], [.t 33, .c (.int .i64 0)], [], [], .bini .eql, some (31, true)⟩,
 ⟨(some 35), [], [.t 31, .t 34, .c (.bool false)], [], [], .pick, none⟩,
 ⟨(some 36), [], [.t 35], [], [], .cp, none⟩,
 ⟨(some 37), [], [.t 1], [], [], .faddr 2, some (36, true)⟩,
 ⟨(some 38), [], [.t 37], [1], [], .load false 1, some (36, true)⟩,
 ⟨(some 39), [], [.t 38], [], [], .len true, some (36, true)⟩,
 ⟨(some 40), [], [.t 39, .c (.int .i64 64)], [], [], .bini .leq, some (36, true)⟩,
 ⟨(some 41), [], [.t 36, .t 40, .c (.bool false)], [], [], .pick, none⟩,
 ⟨(some 2), [41], [.t 41], [], [], .mv, none⟩] [30, 31, 32, 33, 34, 35, 36, 37, 38, 39, 40, 41] [])
 .ret))
 (.seq
 (.reg [⟨(some 43), [], [.t 6, .c (.int .i64 3)], [], [], .bini .eql, none⟩,
 ⟨(some 42), [43], [.t 43], [], [], .mv, none⟩] [43] [])
 (.cond (.t 42)
 (.seq
 (.reg [⟨(some 44), [], [.t 1], [], [], .faddr 2, none⟩,
 ⟨(some 45), [], [.t 44], [1], [], .load false 1, none⟩,
 ⟨(some 46), [], [.t 45, .c (.str [])], [], [], .bins .eql, none⟩,
 ⟨(some 47), [], [.t 46], [], [], .cp, none⟩,
 ⟨(some 48), [], [.t 1], [], [], .faddr 1, some (47, true)⟩,
 ⟨(some 49), [], [.t 48], [1], [], .load false 1, some (47, true)⟩,
 ⟨(some 50), [], [.t 49, .c (.int .i64 0)], [], [], .bini .eql, some (47, true)⟩,
 ⟨(some 51), [], [.t 50], [], [], .cp, some (47, true)⟩,
 ⟨(some 52), [], [.t 1], [], [], .faddr 1, some (51, false)⟩,
 ⟨(some 53), [], [.t 52], [1], [], .load false 1, some (51, false)⟩,
 ⟨(some 54), [], [.t 53, .c (.int .i64 1)], [], [], .bini .eql, some (51, false)⟩,
 ⟨(some 55), [], [.t 51, .c (.bool true), .t 54], [], [], .pick, some (47, true)⟩,
 ⟨(some 56), [], [.t 47, .t 55, .c (.bool false)], [], [], .pick, none⟩,
 ⟨(some 2), [56], [.t 56], [], [], .mv, none⟩] [44, 45, 46, 47, 48, 49, 50, 51, 52, 53, 54, 55, 56] [])
 .ret)
 .skip))))))))
 (.seq
 (.reg [⟨(some 2), [], [.c (.bool false)], [], [], .cp, none⟩] [] [])
 .ret))) }

def H_dot_Read : Hints := [(1, { ops := [(1, { mw := [0], nref := 1 }), (3, { mw := [0], nref := 1 }), (6, { mw := [3] })], kt := [4, 5, 6, 7, 8], kb := [] }),
 (2, { ops := [(1, { mw := [0], nref := 1 }), (4, { mr := [3] })], kt := [9, 10, 11, 12, 13, 14, 15], kb := [] }),
 (3, { ops := [(1, { mw := [0], nref := 1 })], kt := [17, 18], kb := [] }),
 (4, { ops := [(1, { mw := [0], nref := 1 })], kt := [19, 20], kb := [] }),
 (5, { ops := [(1, { mw := [2] })], kt := [22], kb := [] }),
 (6, { ops := [(0, { mr := [3] }), (1, { mw := [2] })], kt := [23], kb := [] })]
def c_dot_Read (F : Nat → FuncId) : AFun := { nparams := 1, ntmps := 24, results := [.cell 2 true 2], body :=
 (.seq
 (.reg [⟨(some 2), [], [], [], [2], .alloc [.val (.int .i64 0), .val (.int .i64 0)], none⟩] [] [])
 (.seq
 (.reg [⟨(some 4), [], [.t 0], [], [], .cp, none⟩,
 ⟨(some 5), [], [.c (.fn (F n_pack_Reader_Int)), .t 4], [], [0], .call 1 false, none⟩,
 ⟨(some 6), [], [.t 0], [], [], .cp, none⟩,
 ⟨(some 7), [], [.c (.fn (F n_pack_Reader_Int)), .t 6], [], [0], .call 1 false, none⟩,
 ⟨(some 8), [], [.t 5, .t 7], [], [], .build [.int .i64 0, .int .i64 0] [(0, 1), (1, 1)], none⟩,
 ⟨(some 3), [], [], [], [3], .alloc [.val (.int .i64 0), .val (.int .i64 0)], none⟩,
 ⟨none, [8], [.t 3, .t 8], [], [3], .store true 2, none⟩] [4, 5, 6, 7, 8] [])
 (.seq
 (.seq
 (.reg [⟨(some 9), [], [.t 0], [], [], .cp, none⟩,
 ⟨(some 10), [], [.c (.fn (F n_pack_Reader_Fault)), .t 9], [], [0], .call 1 false, none⟩,
 ⟨(some 11), [], [.t 10, .c (.int .i64 0)], [], [], .bini .eql, none⟩,
 ⟨(some 12), [], [.t 11], [], [], .cp, none⟩,
 ⟨(some 13), [], [.t 3], [3], [], .load true 2, some (12, true)⟩,
 ⟨(some 14), [], [.c (.fn (F n_dot_Right)), .t 13], [], [], .call 0 false, some (12, true)⟩,
 ⟨(some 15), [], [.t 14], [], [], .not, some (12, true)⟩,
 ⟨(some 16), [], [.t 12, .t 15, .c (.bool false)], [], [], .pick, none⟩] [9, 10, 11, 12, 13, 14, 15] [])
 (.cond (.t 16)
 (.reg [⟨(some 17), [], [.t 0], [], [], .cp, none⟩,
 ⟨(some 18), [], [.c (.fn (F n_pack_Reader_Fail)), .t 17, .c (.int .i64 2)], [], [0], .call 1 false, none⟩] [17, 18] [])
 .skip))
 (.seq
 (.seq
 (.reg [⟨(some 19), [], [.t 0], [], [], .cp, none⟩,
 ⟨(some 20), [], [.c (.fn (F n_pack_Reader_Fault)), .t 19], [], [0], .call 1 false, none⟩,
 ⟨(some 21), [], [.t 20, .c (.int .i64 0)], [], [], .bini .neq, none⟩] [19, 20] [])
 (.cond (.t 21)
 (.seq
 (.reg [⟨(some 22), [], [], [], [], .build [.int .i64 0, .int .i64 0] [], none⟩,
 ⟨none, [22], [.t 2, .t 22], [], [2], .store true 2, none⟩] [22] [])
 .ret)
 .skip))
 (.seq
 (.reg [⟨(some 23), [], [.t 3], [3], [], .load true 2, none⟩,
 ⟨none, [23], [.t 2, .t 23], [], [2], .store true 2, none⟩] [23] [])
 .ret))))) }

end Go.AR
