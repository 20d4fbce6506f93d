import Derived.Test.YtphggkbbjnpaeaaG02
import Derived.Test.YtphggkbbjnpaeaaG03
set_option linter.all false
/-! Codes, printed by program. -/
namespace Go.AR
def H_pref11_Short : Hints := [(1, { ops := [(1, { mr := [1] }), (6, { mr := [1] }), (12, { mr := [1] })], kt := [3, 4, 5, 6, 7, 8, 9, 10, 11, 12, 13, 14, 15, 16, 17, 18], kb := [] })]
def c_pref11_Short (F : Nat → FuncId) : AFun := { nparams := 1, ntmps := 19, results := [.tmp 2], body :=
 (.seq
 (.reg [⟨(some 1), [], [.t 0], [], [1], .box, none⟩,
 ⟨(some 2), [], [.c (.bool false)], [], [], .cp, none⟩] [] [])
 (.seq
 (.reg [⟨(some 3), [], [.t 1], [], [], .faddr 1, none⟩,
 ⟨(some 4), [], [.t 3], [1], [], .load false 1, none⟩,
 ⟨(some 5), [], [.c (.fn (F n_pref10_Short)), .t 4], [], [], .call 0 false, none⟩,
 ⟨(some 6), [], [.t 5], [], [], .cp, none⟩,
 ⟨(some 7), [], [.t 1], [], [], .faddr 2, some (6, true)⟩,
 ⟨(some 8), [], [.t 7], [], [], .faddr 2, some (6, true)⟩,
 ⟨(some 9), [], [.t 8], [1], [], .load false 1, some (6, true)⟩,
 ⟨(some 10), [], [.t 9], [], [], .len true, some (6, true)⟩,
 ⟨(some 11), [], [.t 10, .c (.int .i64 200)], [], [], .bini .leq, some (6, true)⟩,
 ⟨(some 12), [], [.t 6, .t 11, .c (.bool false)], [], [], .pick, none⟩,
 ⟨(some 13), [], [.t 12], [], [], .cp, none⟩,
 ⟨(some 14), [], [.t 1], [], [], .faddr 6, some (13, true)⟩,
 ⟨(some 15), [], [.t 14], [1], [], .load false 1, some (13, true)⟩,
 ⟨(some 16), [], [.t 15], [], [], .len false, some (13, true)⟩,
 ⟨(some 17), [], [.t 16, .c (.int .i64 300)], [], [], .bini .leq, some (13, true)⟩,
 ⟨(some 18), [], [.t 13, .t 17, .c (.bool false)], [], [], .pick, none⟩,
 ⟨(some 2), [18], [.t 18], [], [], .mv, none⟩] [3, 4, 5, 6, 7, 8, 9, 10, 11, 12, 13, 14, 15, 16, 17, 18] [])
 .ret)) }

def H_pref11_Check : Hints := [(1, { ops := [(1, { mr := [1] }), (5, { mr := [1] })], kt := [5, 6, 7, 8, 9, 10, 11], kb := [] }),
 (3, { ops := [(1, { mr := [1] })], kt := [13, 14, 15], kb := [] }),
 (4, { ops := [], kt := [16], kb := [] }),
 (5, { ops := [], kt := [18], kb := [] }),
 (6, { ops := [(2, { mw := [4] })], kt := [19], kb := [] }),
 (7, { ops := [(1, { mr := [1] }), (5, { mr := [1] }), (10, { mr := [1] }), (11, { mr := [4] })], kt := [20, 21, 22, 23, 24, 25, 26, 27, 28, 29, 30, 31, 32], kb := [] }),
 (9, { ops := [(1, { mr := [1] }), (5, { mr := [1] }), (10, { mr := [1] })], kt := [34, 35, 36, 37, 38, 39, 40, 41, 42, 43, 44, 45, 46], kb := [] }),
 (11, { ops := [(1, { mr := [1] }), (5, { mr := [1] }), (10, { mr := [1] }), (14, { mr := [1] }), (18, { mr := [1] }), (23, { mr := [1] })], kt := [48, 49, 50, 51, 52, 53, 54, 55, 56, 57, 58, 59, 60, 61, 62, 63, 64, 65, 66, 67, 68, 69, 70, 71, 72, 73, 74], kb := [] }),
 (13, { ops := [(1, { mr := [1] }), (5, { mr := [1] }), (10, { mr := [1] })], kt := [76, 77, 78, 79, 80, 81, 82, 83, 84, 85, 86, 87, 88], kb := [] }),
 (15, { ops := [(1, { mr := [1] })], kt := [90, 91, 92], kb := [] }),
 (17, { ops := [(1, { mr := [1] })], kt := [94, 95, 96], kb := [] })]
def c_pref11_Check (F : Nat → FuncId) : AFun := { nparams := 1, ntmps := 98, results := [.tmp 2], body :=
 (.seq
 (.reg [⟨(some 1), [], [.t 0], [], [1], .box, none⟩,
 ⟨(some 2), [], [.c (.int .i64 0)], [], [], .cp, none⟩] [] [])
 (.seq
 (.seq
 (.reg [⟨(some 5), [], [.t 1], [], [], .faddr 0, none⟩,
 ⟨(some 6), [], [.t 5], [1], [], .load false 1, none⟩,
 ⟨(some 7), [], [.t 6, .c (.int .i64 1)], [], [], .bini .lss, none⟩,
 ⟨(some 8), [], [.t 7], [], [], .cp, none⟩,
 ⟨(some 9), [], [.t 1], [], [], .faddr 0, some (8, false)⟩,
 ⟨(some 10), [], [.t 9], [1], [], .load false 1, some (8, false)⟩,
 ⟨(some 11), [], [.t 10, .c (.int .i64 5)], [], [], .bini .gtr, some (8, false)⟩,
 ⟨(some 12), [], [.t 8, .c (.bool true), .t 11], [], [], .pick, none⟩] [5, 6, 7, 8, 9, 10, 11] [])
 (.cond (.t 12)
 (.seq
 (.reg [⟨(some 2), [], [.c (.int .i64 18)], [], [], .cp, none⟩] [] [])
 .ret)
 .skip))
 (.seq
 (.reg [⟨(some 13), [], [.t 1], [], [], .faddr 1, none⟩,
 ⟨(some 14), [], [.t 13], [1], [], .load false 1, none⟩,
 ⟨(some 15), [], [.c (.fn (F n_pref10_Check)), .t 14], [], [], .call 0 false, none⟩,
 ⟨(some 3), [15], [.t 15], [], [], .mv, none⟩] [13, 14, 15] [])
 (.seq
 (.seq
 (.reg [⟨(some 16), [], [.t 3], [], [], .cp, none⟩,
 ⟨(some 17), [], [.t 16, .c (.int .i64 0)], [], [], .bini .neq, none⟩] [16] [])
 (.cond (.t 17)
 (.seq
 (.reg [⟨(some 18), [], [.t 3], [], [], .cp, none⟩,
 ⟨(some 2), [18], [.t 18], [], [], .mv, none⟩] [18] [])
 .ret)
 .skip))
 (.seq
 (.reg [⟨(some 19), [], [], [], [], .build [.int .i64 0, .int .i64 0, .str []] [], none⟩,
 ⟨(some 4), [], [], [], [4], .alloc [.val (.int .i64 0), .val (.int .i64 0), .val (.str [])], none⟩,
 ⟨none, [19], [.t 4, .t 19], [], [4], .store true 3, none⟩] [19] [])
 (.seq
 (.seq
 (.reg [⟨(some 20), [], [.t 1], [], [], .faddr 0, none⟩,
 ⟨(some 21), [], [.t 20], [1], [], .load false 1, none⟩,
 ⟨(some 22), [], [.t 21, .c (.int .i64 3)], [], [], .bini .eql, none⟩,
 ⟨(some 23), [], [.t 22], [], [], .cp, none⟩,
 ⟨(some 24), [], [.t 1], [], [], .faddr 0, some (23, false)⟩,
 ⟨(some 25), [], [.t 24], [1], [], .load false 1, some (23, false)⟩,
 ⟨(some 26), [], [.t 25, .c (.int .i64 5)], [], [], .bini .eql, some (23, false)⟩,
 ⟨(some 27), [], [.t 23, .c (.bool true), .t 26], [], [], .pick, none⟩,
 ⟨(some 28), [], [.t 27], [], [], .cp, none⟩,
 ⟨(some 29), [], [.t 1], [], [], .faddr 2, some (28, true)⟩,
 ⟨(some 30), [], [.t 29], [1], [], .load true 3, some (28, true)⟩,
 ⟨(some 31), [], [.t 4], [4], [], .load true 3, some (28, true)⟩,
 ⟨(some 32), [], [.t 30, .t 31], [], [], .eqa [.i, .i, .s] true, some (28, true)⟩,
 ⟨(some 33), [], [.t 28, .t 32, .c (.bool false)], [], [], .pick, none⟩] [20, 21, 22, 23, 24, 25, 26, 27, 28, 29, 30, 31, 32] [])
 (.cond (.t 33)
 (.seq
 (.reg [⟨(some 2), [], [.c (.int .i64 2)], [], [], .cp, none⟩] [] [])
 .ret)
 .skip))
 (.seq
 (.seq
 (.reg [⟨(some 34), [], [.t 1], [], [], .faddr 0, none⟩,
 ⟨(some 35), [], [.t 34], [1], [], .load false 1, none⟩,
 ⟨(some 36), [], [.t 35, .c (.int .i64 3)], [], [], .bini .neq, none⟩,
 ⟨(some 37), [], [.t 36], [], [], .cp, none⟩,
 ⟨(some 38), [], [.t 1], [], [], .faddr 0, some (37, true)⟩,
 ⟨(some 39), [], [.t 38], [1], [], .load false 1, some (37, true)⟩,
 ⟨(some 40), [], [.t 39, .c (.int .i64 5)], [], [], .bini .neq, some (37, true)⟩,
 ⟨(some 41), [], [.t 37, .t 40, .c (.bool false)], [], [], .pick, none⟩,
 ⟨(some 42), [], [.t 41], [], [], .cp, none⟩,
 ⟨(some 43), [], [.t 1], [], [], .faddr 2, some (42, true)⟩,
 ⟨(some 44), [], [.t 43], [1], [], .load true 3, some (42, true)⟩,
 ⟨(some 45), [], [.c (.fn (F n_pref09_Right)), .t 44], [], [], .call 0 false, some (42, true)⟩,
 ⟨(some 46), [], [.t 45], [], [], .not, some (42, true)⟩,
 ⟨(some 47), [], [.t 42, .t 46, .c (.bool false)], [], [], .pick, none⟩] [34, 35, 36, 37, 38, 39, 40, 41, 42, 43, 44, 45, 46] [])
 (.cond (.t 47)
 (.seq
 (.reg [⟨(some 2), [], [.c (.int .i64 2)], [], [], .cp, none⟩] [] [])
 .ret)
 .skip))
 (.seq
 (.seq
 (.reg [⟨(some 48), [], [.t 1], [], [], .faddr 0, none⟩,
 ⟨(some 49), [], [.t 48], [1], [], .load false 1, none⟩,
 ⟨(some 50), [], [.t 49, .c (.int .i64 3)], [], [], .bini .neq, none⟩,
 ⟨(some 51), [], [.t 50], [], [], .cp, none⟩,
 ⟨(some 52), [], [.t 1], [], [], .faddr 5, some (51, true)⟩,
 ⟨(some 53), [], [.t 52], [1], [], .load false 1, some (51, true)⟩,
 ⟨(some 54), [], [.t 53, .c (.int .i64 0)], [], [], .bini .neq, some (51, true)⟩,
 ⟨(some 55), [], [.t 51, .t 54, .c (.bool false)], [], [], .pick, none⟩,
 ⟨(some 56), [], [.t 55], [], [], .cp, none⟩,
 ⟨(some 57), [], [.t 1], [], [], .faddr 0, some (56, false)⟩,
 ⟨(some 58), [], [.t 57], [1], [], .load false 1, some (56, false)⟩,
 ⟨(some 59), [], [.t 58, .c (.int .i64 3)], [], [], .bini .eql, some (56, false)⟩,
 ⟨(some 60), [], [.t 59], [], [], .cp, some (56, false)⟩,
 ⟨(some 61), [], [.t 1], [], [], .faddr 5, some (60, true)⟩,
 ⟨(some 62), [], [.t 61], [1], [], .load false 1, some (60, true)⟩,
 ⟨(some 63), [], [.t 62, .c (.int .i64 0)], [], [], .bini .eql, some (60, true)⟩,
 ⟨(some 64), [], [.t 63], [], [], .cp, some (60, true)⟩,
 ⟨(some 65), [], [.t 1], [], [], .faddr 5, some (64, false)⟩,
 ⟨(some 66), [], [.t 65], [1], [], .load false 1, some (64, false)⟩,
 ⟨(some 67), [], [.t 66, .c (.int .i64 2147483647)], [], [], .bini .gtr, some (64, false)⟩,
 ⟨(some 68), [], [.t 64, .c (.bool true), .t 67], [], [], .pick, some (60, true)⟩,
 ⟨(some 69), [], [.t 68], [], [], .cp, some (60, true)⟩,
 ⟨(some 70), [], [.t 1], [], [], .faddr 5, some (69, false)⟩,
 ⟨(some 71), [], [.t 70], [1], [], .load false 1, some (69, false)⟩,
 ⟨(some 72), [], [.t 71, .c (.int .i64 (-2147483647))], [], [], .bini .lss, some (69, false)⟩,
 ⟨(some 73), [], [.t 69, .c (.bool true), .t 72], [], [], .pick, some (60, true)⟩,
 ⟨(some 74), [], [.t 60, .t 73, .c (.bool false)], [], [], .pick, some (56, false)⟩,
 ⟨(some 75), [], [.t 56, .c (.bool true), .t 74], [], [], .pick, none⟩] [48, 49, 50, 51, 52, 53, 54, 55, 56, 57, 58, 59, 60, 61, 62, 63, 64, 65, 66, 67, 68, 69, 70, 71, 72, 73, 74] [])
 (.cond (.t 75)
 (.seq
 (.reg [⟨(some 2), [], [.c (.int .i64 2)], [], [], .cp, none⟩] [] [])
 .ret)
 .skip))
 (.seq
 (.seq
 (.reg [⟨(some 76), [], [.t 1], [], [], .faddr 0, none⟩,
 ⟨(some 77), [], [.t 76], [1], [], .load false 1, none⟩,
 ⟨(some 78), [], [.t 77, .c (.int .i64 2)], [], [], .bini .eql, none⟩,
 ⟨(some 79), [], [.t 78], [], [], .cp, none⟩,
 ⟨(some 80), [], [.t 1], [], [], .faddr 0, some (79, false)⟩,
 ⟨(some 81), [], [.t 80], [1], [], .load false 1, some (79, false)⟩,
 ⟨(some 82), [], [.t 81, .c (.int .i64 3)], [], [], .bini .eql, some (79, false)⟩,
 ⟨(some 83), [], [.t 79, .c (.bool true), .t 82], [], [], .pick, none⟩,
 ⟨(some 84), [], [.t 83], [], [], .cp, none⟩,
 ⟨(some 85), [], [.t 1], [], [], .faddr 6, some (84, true)⟩,
 ⟨(some 86), [], [.t 85], [1], [], .load false 1, some (84, true)⟩,
 ⟨(some 87), [], [.t 86], [], [], .len false, some (84, true)⟩,
 ⟨(some 88), [], [.t 87, .c (.int .i64 0)], [], [], .bini .gtr, some (84, true)⟩,
 ⟨(some 89), [], [.t 84, .t 88, .c (.bool false)], [], [], .pick, none⟩] [76, 77, 78, 79, 80, 81, 82, 83, 84, 85, 86, 87, 88] [])
 (.cond (.t 89)
 (.seq
 (.reg [⟨(some 2), [], [.c (.int .i64 2)], [], [], .cp, none⟩] [] [])
 .ret)
 .skip))
 (.seq
 (.seq
 (.reg [⟨(some 90), [], [.t 1], [], [], .faddr 6, none⟩,
 ⟨(some 91), [], [.t 90], [1], [], .load false 1, none⟩,
 ⟨(some 92), [], [.t 91], [], [], .len false, none⟩,
 ⟨(some 93), [], [.t 92, .c (.int .i64 256)], [], [], .bini .gtr, none⟩] [90, 91, 92] [])
 (.cond (.t 93)
 (.seq
 (.reg [⟨(some 2), [], [.c (.int .i64 7)], [], [], .cp, none⟩] [] [])
 .ret)
 .skip))
 (.seq
 (.seq
 (.reg [⟨(some 94), [], [.t 1], [], [], .faddr 6, none⟩,
 ⟨(some 95), [], [.t 94], [1], [], .load false 1, none⟩,
 ⟨(some 96), [], [.c (.fn (F n_pref11_Refs)), .t 95], [], [], .call 0 false, none⟩,
 ⟨(some 97), [], [.t 96], [], [], .not, none⟩] [94, 95, 96] [])
 (.cond (.t 97)
 (.seq
 (.reg [⟨(some 2), [], [.c (.int .i64 2)], [], [], .cp, none⟩] [] [])
 .ret)
 .skip))
 (.seq
 (.reg [⟨(some 2), [], [.c (.int .i64 0)], [], [], .cp, none⟩] [] [])
 .ret)))))))))))) }

def H_op_Leaf : Hints := [(2, { ops := [], kt := [5], kb := [] }),
 (4, { ops := [], kt := [7], kb := [] }),
 (5, { ops := [], kt := [8], kb := [] }),
 (7, { ops := [], kt := [10], kb := [] })]
def c_op_Leaf (F : Nat → FuncId) : AFun := { nparams := 1, ntmps := 11, results := [.tmp 2], body :=
 (.seq
 (.reg [⟨(some 2), [], [.c (.int .i64 0)], [], [], .cp, none⟩] [] [])
 (.seq
 (.seq
 (.reg [⟨(some 3), [], [.t 0], [], [], .cp, none⟩] [] [])
 (.block 0
 (.seq
 (.reg [⟨(some 5), [], [.t 3, .c (.int .i64 1)], [], [], .bini .eql, none⟩,
 ⟨(some 4), [5], [.t 5], [], [], .mv, none⟩] [5] [])
 (.cond (.t 4)
 (.seq
 (.reg [⟨(some 2), [], [.c (.int .i64 1)], [], [], .cp, none⟩] [] [])
 .ret)
 (.seq
 (.seq
 (.reg [⟨(some 7), [], [.t 3, .c (.int .i64 2)], [], [], .bini .eql, none⟩,
 ⟨(some 6), [7], [.t 7], [], [], .mv, none⟩] [7] [])
 (.cond (.t 6)
 .skip
 (.reg [⟨(some 8), [], [.t 3, .c (.int .i64 4)], [], [], .bini .eql, none⟩,
 ⟨(some 6), [8], [.t 8], [], [], .mv, none⟩] [8] [])))
 (.cond (.t 6)
 (.seq
 (.reg [⟨(some 2), [], [.c (.int .i64 2)], [], [], .cp, none⟩] [] [])
 .ret)
 (.seq
 (.reg [⟨(some 10), [], [.t 3, .c (.int .i64 3)], [], [], .bini .eql, none⟩,
 ⟨(some 9), [10], [.t 10], [], [], .mv, none⟩] [10] [])
 (.cond (.t 9)
 (.seq
 (.reg [⟨(some 2), [], [.c (.int .i64 3)], [], [], .cp, none⟩] [] [])
 .ret)
 .skip))))))))
 (.seq
 (.reg [⟨(some 2), [], [.c (.int .i64 0)], [], [], .cp, none⟩] [] [])
 .ret))) }

def H_pref11_Leaf : Hints := [(1, { ops := [], kt := [3], kb := [] }),
 (3, { ops := [], kt := [5, 6, 7, 8, 9], kb := [] }),
 (5, { ops := [], kt := [11], kb := [] })]
def c_pref11_Leaf (F : Nat → FuncId) : AFun := { nparams := 1, ntmps := 13, results := [.tmp 2], body :=
 (.seq
 (.reg [⟨(some 2), [], [.c (.int .i64 0)], [], [], .cp, none⟩] [] [])
 (.seq
 (.seq
 (.reg [⟨(some 3), [], [.t 0], [], [], .cp, none⟩,
 ⟨(some 4), [], [.t 3, .c (.int .i64 1)], [], [], .bini .eql, none⟩] [3] [])
 (.cond (.t 4)
 (.seq
 (.reg [⟨(some 2), [], [.c (.int .i64 1)], [], [], .cp, none⟩] [] [])
 .ret)
 .skip))
 (.seq
 (.seq
 (.reg [⟨(some 5), [], [.t 0], [], [], .cp, none⟩,
 ⟨(some 6), [], [.t 5, .c (.int .i64 2)], [], [], .bini .eql, none⟩,
 ⟨(some 7), [], [.t 6], [], [], .cp, none⟩,
 ⟨(some 8), [], [.t 0], [], [], .cp, some (7, false)⟩,
 ⟨(some 9), [], [.t 8, .c (.int .i64 4)], [], [], .bini .eql, some (7, false)⟩,
 ⟨(some 10), [], [.t 7, .c (.bool true), .t 9], [], [], .pick, none⟩] [5, 6, 7, 8, 9] [])
 (.cond (.t 10)
 (.seq
 (.reg [⟨(some 2), [], [.c (.int .i64 2)], [], [], .cp, none⟩] [] [])
 .ret)
 .skip))
 (.seq
 (.seq
 (.reg [⟨(some 11), [], [.t 0], [], [], .cp, none⟩,
 ⟨(some 12), [], [.t 11, .c (.int .i64 3)], [], [], .bini .eql, none⟩] [11] [])
 (.cond (.t 12)
 (.seq
 (.reg [⟨(some 2), [], [.c (.int .i64 3)], [], [], .cp, none⟩] [] [])
 .ret)
 .skip))
 (.seq
 (.reg [⟨(some 2), [], [.c (.int .i64 0)], [], [], .cp, none⟩] [] [])
 .ret))))) }

def H_pref11_Refs : Hints := [(2, { ops := [], kt := [4, 5, 6], kb := [] }),
 (3, { ops := [], kt := [4, 5, 6, 7, 8, 9, 10, 11, 12, 13, 14, 15, 16, 17, 18, 19, 20, 21, 22, 23, 24, 25, 26, 27, 28, 29, 30, 31, 32, 33, 34, 35, 36, 37, 38, 39, 40, 41, 42, 43, 44, 45, 46, 47], kb := [] }),
 (4, { ops := [], kt := [10, 11, 12, 13, 14, 15, 16, 17, 18, 19, 20, 21, 22, 23, 24, 25, 26, 27, 28, 29, 30, 31], kb := [] }),
 (6, { ops := [], kt := [33, 34, 35, 36, 37, 38, 39, 40, 41, 42, 43, 44, 45, 46], kb := [] })]
def c_pref11_Refs (F : Nat → FuncId) : AFun := { nparams := 1, ntmps := 48, results := [.tmp 2], body :=
 (.seq
 (.reg [⟨(some 2), [], [.c (.bool false)], [], [], .cp, none⟩] [] [])
 (.seq
 (.seq
 (.reg [⟨(some 3), [], [.c (.int .i64 0)], [], [], .cp, none⟩] [] [])
 (.block 0
 (.loop
 (.seq
 (.seq
 (.reg [⟨(some 4), [], [.t 3], [], [], .cp, none⟩,
 ⟨(some 5), [], [.t 0], [], [], .cp, none⟩,
 ⟨(some 6), [], [.t 5], [], [], .len false, none⟩,
 ⟨(some 7), [], [.t 4, .t 6], [], [], .bini .lss, none⟩] [4, 5, 6] [])
 (.cond (.t 7)
 .skip
 (.exit 0)))
 (.seq
 (.block 1
 (.seq
 (.seq
 (.reg [⟨(some 10), [], [.t 0], [], [], .cp, none⟩,
 ⟨(some 11), [], [.t 3], [], [], .cp, none⟩,
 ⟨(some 12), [], [.t 10, .t 11], [], [], .iaddr none 3, none⟩,
 ⟨(some 13), [], [.t 12], [], [], .faddr 0, none⟩,
 ⟨(some 14), [], [.t 13], [], [], .load true 2, none⟩,
 ⟨(some 15), [], [.c (.fn (F n_pref04_Right)), .t 14], [], [], .call 0 false, none⟩,
 ⟨(some 16), [], [.t 15], [], [], .not, none⟩,
 ⟨(some 17), [], [.t 16], [], [], .cp, none⟩,
 ⟨(some 18), [], [.t 0], [], [], .cp, some (17, false)⟩,
 ⟨(some 19), [], [.t 3], [], [], .cp, some (17, false)⟩,
 ⟨(some 20), [], [.t 18, .t 19], [], [], .iaddr none 3, some (17, false)⟩,
 ⟨(some 21), [], [.t 20], [], [], .faddr 2, some (17, false)⟩,
 ⟨(some 22), [], [.t 21], [], [], .load false 1, some (17, false)⟩,
 ⟨(some 23), [], [.t 22, .c (.int .i64 0)], [], [], .bini .lss, some (17, false)⟩,
 ⟨(some 24), [], [.t 17, .c (.bool true), .t 23], [], [], .pick, none⟩,
 ⟨(some 25), [], [.t 24], [], [], .cp, none⟩,
 ⟨(some 26), [], [.t 0], [], [], .cp, some (25, false)⟩,
 ⟨(some 27), [], [.t 3], [], [], .cp, some (25, false)⟩,
 ⟨(some 28), [], [.t 26, .t 27], [], [], .iaddr none 3, some (25, false)⟩,
 ⟨(some 29), [], [.t 28], [], [], .faddr 2, some (25, false)⟩,
 ⟨(some 30), [], [.t 29], [], [], .load false 1, some (25, false)⟩,
 ⟨(some 31), [], [.t 30, .c (.int .i64 15)], [], [], .bini .gtr, some (25, false)⟩,
 ⟨(some 32), [], [.t 25, .c (.bool true), .t 31], [], [], .pick, none⟩] [10, 11, 12, 13, 14, 15, 16, 17, 18, 19, 20, 21, 22, 23, 24, 25, 26, 27, 28, 29, 30, 31] [])
 (.cond (.t 32)
 (.seq
 (.reg [⟨(some 2), [], [.c (.bool false)], [], [], .cp, none⟩] [] [])
 .ret)
 .skip))
 (.seq
 (.reg [⟨(some 33), [], [.t 3], [], [], .cp, none⟩,
 ⟨(some 34), [], [.t 33, .c (.int .i64 0)], [], [], .bini .gtr, none⟩,
 ⟨(some 35), [], [.t 34], [], [], .cp, none⟩,
 ⟨(some 36), [], [.t 0], [], [], .cp, some (35, true)⟩,
 ⟨(some 37), [], [.t 3], [], [], .cp, some (35, true)⟩,
 ⟨(some 38), [], [.t 37, .c (.int .i64 1)], [], [], .bini .sub, some (35, true)⟩,
 ⟨(some 39), [], [.t 36, .t 38], [], [], .iaddr none 3, some (35, true)⟩,
 ⟨(some 40), [], [.t 39], [], [], .load true 3, some (35, true)⟩,
 ⟨(some 41), [], [.t 0], [], [], .cp, some (35, true)⟩,
 ⟨(some 42), [], [.t 3], [], [], .cp, some (35, true)⟩,
 ⟨(some 43), [], [.t 41, .t 42], [], [], .iaddr none 3, some (35, true)⟩,
 ⟨(some 44), [], [.t 43], [], [], .load true 3, some (35, true)⟩,
 ⟨(some 45), [], [.c (.fn (F n_pref04_Refs)), .t 40, .t 44], [], [], .call 0 false, some (35, true)⟩,
 ⟨(some 46), [], [.t 45, .c (.int .i64 (-1))], [], [], .bini .neq, some (35, true)⟩,
 ⟨(some 47), [], [.t 35, .t 46, .c (.bool false)], [], [], .pick, none⟩] [33, 34, 35, 36, 37, 38, 39, 40, 41, 42, 43, 44, 45, 46] [])
 (.cond (.t 47)
 (.seq
 (.reg [⟨(some 2), [], [.c (.bool false)], [], [], .cp, none⟩] [] [])
 .ret)
 .skip))))
 (.reg [⟨(some 8), [], [.t 3], [], [], .cp, none⟩,
 ⟨(some 9), [], [.t 8, .c (.int .i64 1)], [], [], .bini .add, none⟩,
 ⟨(some 3), [9], [.t 9], [], [], .mv, none⟩] [4, 5, 6, 7, 8, 9, 10, 11, 12, 13, 14, 15, 16, 17, 18, 19, 20, 21, 22, 23, 24, 25, 26, 27, 28, 29, 30, 31, 32, 33, 34, 35, 36, 37, 38, 39, 40, 41, 42, 43, 44, 45, 46, 47] []))))))
 (.seq
 (.reg [⟨(some 2), [], [.c (.bool true)], [], [], .cp, none⟩] [] [])
 .ret))) }

def H_pref11_Gone : Hints := [(1, { ops := [(2, { mw := [3] })], kt := [4], kb := [] }),
 (2, { ops := [(1, { mr := [1] }), (5, { mr := [1] }), (11, { mr := [1] }), (12, { mr := [3] }), (17, { mr := [1] }), (22, { mr := [1] })], kt := [5, 6, 7, 8, 9, 10, 11, 12, 13, 14, 15, 16, 17, 18, 19, 20, 21, 22, 23, 24, 25, 26, 27, 28, 29, 30], kb := [] })]
def c_pref11_Gone (F : Nat → FuncId) : AFun := { nparams := 1, ntmps := 31, results := [.tmp 2], body :=
 (.seq
 (.reg [⟨(some 1), [], [.t 0], [], [1], .box, none⟩,
 ⟨(some 2), [], [.c (.bool false)], [], [], .cp, none⟩] [] [])
 (.seq
 (.reg [⟨(some 4), [], [], [], [], .build [.int .i64 0, .int .i64 0, .str []] [], none⟩,
 ⟨(some 3), [], [], [], [3], .alloc [.val (.int .i64 0), .val (.int .i64 0), .val (.str [])], none⟩,
 ⟨none, [4], [.t 3, .t 4], [], [3], .store true 3, none⟩] [4] [])
 (.seq
 (.reg [⟨(some 5), [], [.t 1], [], [], .faddr 0, none⟩,
 ⟨(some 6), [], [.t 5], [1], [], .load false 1, none⟩,
 ⟨(some 7), [], [.t 6, .c (.int .i64 0)], [], [], .bini .eql, none⟩,
 ⟨(some 8), [], [.t 7], [], [], .cp, none⟩,
 ⟨(some 9), [], [.t 1], [], [], .faddr 1, some (8, true)⟩,
 ⟨(some 10), [], [.t 9], [1], [], .load false 1, some (8, true)⟩,
 ⟨(some 11), [], [.t 10], [], [], .len false, some (8, true)⟩,
 ⟨(some 12), [], [.t 11, .c (.int .i64 0)], [], [], .bini .eql, some (8, true)⟩,
 ⟨(some 13), [], [.t 8, .t 12, .c (.bool false)], [], [], .pick, none⟩,
 ⟨(some 14), [], [.t 13], [], [], .cp, none⟩,
 ⟨(some 15), [], [.t 1], [], [], .faddr 2, some (14, true)⟩,
 ⟨(some 16), [], [.t 15], [1], [], .load true 3, some (14, true)⟩,
 ⟨(some 17), [], [.t 3], [3], [], .load true 3, some (14, true)⟩,
 ⟨(some 18), [], [.t 16, .t 17], [], [], .eqa [.i, .i, .s] false, some (14, true)⟩,
 ⟨(some 19), [], [.t 14, .t 18, .c (.bool false)], [], [], .pick, none⟩,
 ⟨(some 20), [], [.t 19], [], [], .cp, none⟩,
 ⟨(some 21), [], [.t 1], [], [], .faddr 5, some (20, true)⟩,
 ⟨(some 22), [], [.t 21], [1], [], .load false 1, some (20, true)⟩,
 ⟨(some 23), [], [.t 22, .c (.int .i64 0)], [], [], .bini .eql, some (20, true)⟩,
 ⟨(some 24), [], [.t 20, .t 23, .c (.bool false)], [], [], .pick, none⟩,
 ⟨(some 25), [], [.t 24], [], [], .cp, none⟩,
 ⟨(some 26), [], [.t 1], [], [], .faddr 6, some (25, true)⟩,
 ⟨(some 27), [], [.t 26], [1], [], .load false 1, some (25, true)⟩,
 ⟨(some 28), [], [.t 27], [], [], .len false, some (25, true)⟩,
 ⟨(some 29), [], [.t 28, .c (.int .i64 0)], [], [], .bini .eql, some (25, true)⟩,
 ⟨(some 30), [], [.t 25, .t 29, .c (.bool false)], [], [], .pick, none⟩,
 ⟨(some 2), [30], [.t 30], [], [], .mv, none⟩] [5, 6, 7, 8, 9, 10, 11, 12, 13, 14, 15, 16, 17, 18, 19, 20, 21, 22, 23, 24, 25, 26, 27, 28, 29, 30] [])
 .ret))) }

def H_pref11_Covers : Hints := [(2, { ops := [(2, { mr := [2] })], kt := [6, 7, 8, 9], kb := [] }),
 (3, { ops := [], kt := [6, 7, 8, 9, 10, 11, 12, 13, 14, 15, 16, 17, 18, 19], kb := [] }),
 (4, { ops := [(1, { mr := [2] }), (5, { mr := [3] })], kt := [13, 14, 15, 16, 17, 18], kb := [] })]
def c_pref11_Covers (F : Nat → FuncId) : AFun := { nparams := 2, ntmps := 20, results := [.tmp 4], body :=
 (.seq
 (.reg [⟨(some 2), [], [.t 0], [], [2], .box, none⟩,
 ⟨(some 3), [], [.t 1], [], [3], .box, none⟩,
 ⟨(some 4), [], [.c (.bool false)], [], [], .cp, none⟩] [] [])
 (.seq
 (.seq
 (.reg [⟨(some 5), [], [.c (.int .i64 0)], [], [], .cp, none⟩] [] [])
 (.block 0
 (.loop
 (.seq
 (.seq
 (.reg [⟨(some 6), [], [.t 5], [], [], .cp, none⟩,
 ⟨(some 7), [], [.t 2], [], [], .faddr 6, none⟩,
 ⟨(some 8), [], [.t 7], [2], [], .load false 1, none⟩,
 ⟨(some 9), [], [.t 8], [], [], .len false, none⟩,
 ⟨(some 10), [], [.t 6, .t 9], [], [], .bini .lss, none⟩] [6, 7, 8, 9] [])
 (.cond (.t 10)
 .skip
 (.exit 0)))
 (.seq
 (.block 1
 (.seq
 (.reg [⟨(some 13), [], [.t 2], [], [], .faddr 6, none⟩,
 ⟨(some 14), [], [.t 13], [2], [], .load false 1, none⟩,
 ⟨(some 15), [], [.t 5], [], [], .cp, none⟩,
 ⟨(some 16), [], [.t 14, .t 15], [], [], .iaddr none 3, none⟩,
 ⟨(some 17), [], [.t 16], [], [], .load true 3, none⟩,
 ⟨(some 18), [], [.t 3], [3], [], .load true 3, none⟩,
 ⟨(some 19), [], [.t 17, .t 18], [], [], .eqa [.i, .i, .i] false, none⟩] [13, 14, 15, 16, 17, 18] [])
 (.cond (.t 19)
 (.seq
 (.reg [⟨(some 4), [], [.c (.bool true)], [], [], .cp, none⟩] [] [])
 .ret)
 .skip)))
 (.reg [⟨(some 11), [], [.t 5], [], [], .cp, none⟩,
 ⟨(some 12), [], [.t 11, .c (.int .i64 1)], [], [], .bini .add, none⟩,
 ⟨(some 5), [12], [.t 12], [], [], .mv, none⟩] [6, 7, 8, 9, 10, 11, 12, 13, 14, 15, 16, 17, 18, 19] []))))))
 (.seq
 (.reg [⟨(some 4), [], [.c (.bool false)], [], [], .cp, none⟩] [] [])
 .ret))) }

def H_pref09_Right : Hints := [(1, { ops := [(1, { mr := [1] })], kt := [5, 6], kb := [] }),
 (2, { ops := [(1, { mr := [1] }), (5, { mr := [1] }), (10, { mr := [1] })], kt := [8, 9, 10, 11, 12, 13, 14, 15, 16, 17, 18, 19, 20], kb := [] }),
 (3, { ops := [(1, { mr := [1] })], kt := [21, 22], kb := [] }),
 (4, { ops := [(1, { mr := [1] })], kt := [3, 24, 25, 26, 27, 28, 29], kb := [] }),
 (5, { ops := [(1, { mr := [1] }), (8, { mr := [1] })], kt := [30, 31, 32, 33, 34, 35, 36, 37, 38, 39, 40, 41], kb := [] }),
 (6, { ops := [(1, { mr := [1] }), (5, { mr := [1] }), (10, { mr := [1] }), (15, { mr := [1] })], kt := [42, 43, 44, 45, 46, 47, 48, 49, 50, 51, 52, 53, 54, 55, 56, 57, 58, 59], kb := [] })]
def c_pref09_Right (F : Nat → FuncId) : AFun := { nparams := 1, ntmps := 60, results := [.tmp 2], body :=
 (.seq
 (.reg [⟨(some 1), [], [.t 0], [], [1], .box, none⟩,
 ⟨(some 2), [], [.c (.bool false)], [], [], .cp, none⟩] [] [])
 (.seq
 (.seq
 (.reg [⟨(some 5), [], [.t 1], [], [], .faddr 0, none⟩,
 ⟨(some 6), [], [.t 5], [1], [], .load false 1, none⟩,
 ⟨(some 7), [], [.t 6, .c (.int .i64 1)], [], [], .bini .eql, none⟩] [5, 6] [])
 (.cond (.t 7)
 (.seq
 (.reg [⟨(some 8), [], [.t 1], [], [], .faddr 2, none⟩,
 ⟨(some 9), [], [.t 8], [1], [], .load false 1, none⟩,
 ⟨(some 10), [], [.t 9, .c (.str [])], [], [], .bins .eql, none⟩,
 ⟨(some 11), [], [.t 10], [], [], .cp, none⟩,
 ⟨(some 12), [], [.t 1], [], [], .faddr 1, some (11, true)⟩,
 ⟨(some 13), [], [.t 12], [1], [], .load false 1, some (11, true)⟩,
 ⟨(some 14), [], [.t 13, .c (.int .i64 (-2147483647))], [], [], .bini .geq, some (11, true)⟩,
 ⟨(some 15), [], [.t 11, .t 14, .c (.bool false)], [], [], .pick, none⟩,
 ⟨(some 16), [], [.t 15], [], [], .cp, none⟩,
 ⟨(some 17), [], [.t 1], [], [], .faddr 1, some (16, true)⟩,
 ⟨(some 18), [], [.t 17], [1], [], .load false 1, some (16, true)⟩,
 ⟨(some 19), [], [.t 18, .c (.int .i64 2147483647)], [], [], .bini .leq, some (16, true)⟩,
 ⟨(some 20), [], [.t 16, .t 19, .c (.bool false)], [], [], .pick, none⟩,
 ⟨(some 2), [20], [.t 20], [], [], .mv, none⟩] [8, 9, 10, 11, 12, 13, 14, 15, 16, 17, 18, 19, 20] [])
 .ret)
 .skip))
 (.seq
 (.seq
 (.reg [⟨(some 21), [], [.t 1], [], [], .faddr 0, none⟩,
 ⟨(some 22), [], [.t 21], [1], [], .load false 1, none⟩,
 ⟨(some 23), [], [.t 22, .c (.int .i64 2)], [], [], .bini .eql, none⟩] [21, 22] [])
 (.cond (.t 23)
 (.seq
 (.reg [⟨(some 25), [], [.t 1], [], [], .faddr 2, none⟩,
 ⟨(some 26), [], [.t 25], [1], [], .load false 1, none⟩,
 ⟨(some 27), [], [.c (.fn (F n_pref03_Runes)), .t 26], [], [], .call 0 false, none⟩,
 ⟨(some 24), [], [.t 27], [], [], .cp, none⟩,
 ⟨(some 28), [], [.t 24], [], [], .extract 0, none⟩,
 ⟨(some 29), [], [.t 24], [], [], .extract 1, none⟩,
 ⟨(some 3), [28], [.t 28], [], [], .mv, none⟩,
 ⟨(some 4), [29], [.t 29], [], [], .mv, none⟩] [3, 24, 25, 26, 27, 28, 29] [])
 (.seq
 (.reg [⟨(some 30), [], [.t 1], [], [], .faddr 1, none⟩,
 ⟨(some 31), [], [.t 30], [1], [], .load false 1, none⟩,
 ⟨(some 32), [], [.t 31, .c (.int .i64 0)], [], [], .bini .eql, none⟩,
 ⟨(some 33), [], [.t 32], [], [], .cp, none⟩,
 ⟨(some 34), [], [.t 4], [], [], .cp, some (33, true)⟩,
 ⟨(some 35), [], [.t 33, .t 34, .c (.bool false)], [], [], .pick, none⟩,
 ⟨(some 36), [], [.t 35], [], [], .cp, none⟩,
 ⟨(some 37), [], [.t 1], [], [], .faddr 2, some (36, true)⟩,
 ⟨(some 38), [], [.t 37], [1], [], .load false 1, some (36, true)⟩,
 ⟨(some 39), [], [.t 38], [], [], .len true, some (36, true)⟩,
 ⟨(some 40), [], [.t 39, .c (.int .i64 64)], [], [], .bini .leq, some (36, true)⟩,
 ⟨(some 41), [], [.t 36, .t 40, .c (.bool false)], [], [], .pick, none⟩,
 ⟨(some 2), [41], [.t 41], [], [], .mv, none⟩] [30, 31, 32, 33, 34, 35, 36, 37, 38, 39, 40, 41] [])
 .ret))
 .skip))
 (.seq
 (.reg [⟨(some 42), [], [.t 1], [], [], .faddr 0, none⟩,
 ⟨(some 43), [], [.t 42], [1], [], .load false 1, none⟩,
 ⟨(some 44), [], [.t 43, .c (.int .i64 3)], [], [], .bini .eql, none⟩,
 ⟨(some 45), [], [.t 44], [], [], .cp, none⟩,
 ⟨(some 46), [], [.t 1], [], [], .faddr 2, some (45, true)⟩,
 ⟨(some 47), [], [.t 46], [1], [], .load false 1, some (45, true)⟩,
 ⟨(some 48), [], [.t 47, .c (.str [])], [], [], .bins .eql, some (45, true)⟩,
 ⟨(some 49), [], [.t 45, .t 48, .c (.bool false)], [], [], .pick, none⟩,
 ⟨(some 50), [], [.t 49], [], [], .cp, none⟩,
 ⟨(some 51), [], [.t 1], [], [], .faddr 1, some (50, true)⟩,
 ⟨(some 52), [], [.t 51], [1], [], .load false 1, some (50, true)⟩,
 ⟨(some 53), [], [.t 52, .c (.int .i64 0)], [], [], .bini .geq, some (50, true)⟩,
 ⟨(some 54), [], [.t 50, .t 53, .c (.bool false)], [], [], .pick, none⟩,
 ⟨(some 55), [], [.t 54], [], [], .cp, none⟩,
 ⟨(some 56), [], [.t 1], [], [], .faddr 1, some (55, true)⟩,
 ⟨(some 57), [], [.t 56], [1], [], .load false 1, some (55, true)⟩,
 ⟨(some 58), [], [.t 57, .c (.int .i64 1)], [], [], .bini .leq, some (55, true)⟩,
 ⟨(some 59), [], [.t 55, .t 58, .c (.bool false)], [], [], .pick, none⟩,
 ⟨(some 2), [59], [.t 59], [], [], .mv, none⟩] [42, 43, 44, 45, 46, 47, 48, 49, 50, 51, 52, 53, 54, 55, 56, 57, 58, 59] [])
 .ret)))) }

def H_pref04_Refs : Hints := [(1, { ops := [(1, { mr := [2] }), (3, { mr := [3] })], kt := [5, 6, 7, 8, 9], kb := [] }),
 (2, { ops := [(1, { mr := [2] }), (3, { mr := [3] })], kt := [11, 12, 13, 14, 15], kb := [] }),
 (3, { ops := [(1, { mr := [2] }), (3, { mr := [3] })], kt := [16, 17, 18, 19, 20], kb := [] })]
def c_pref04_Refs (F : Nat → FuncId) : AFun := { nparams := 2, ntmps := 21, results := [.tmp 4], body :=
 (.seq
 (.reg [⟨(some 2), [], [.t 0], [], [2], .box, none⟩,
 ⟨(some 3), [], [.t 1], [], [3], .box, none⟩,
 ⟨(some 4), [], [.c (.int .i64 0)], [], [], .cp, none⟩] [] [])
 (.seq
 (.seq
 (.reg [⟨(some 5), [], [.t 2], [], [], .faddr 0, none⟩,
 ⟨(some 6), [], [.t 5], [2], [], .load true 2, none⟩,
 ⟨(some 7), [], [.t 3], [], [], .faddr 0, none⟩,
 ⟨(some 8), [], [.t 7], [3], [], .load true 2, none⟩,
 ⟨(some 9), [], [.c (.fn (F n_pref04_Compare)), .t 6, .t 8], [], [], .call 0 false, none⟩,
 ⟨(some 10), [], [.t 9, .c (.int .i64 0)], [], [], .bini .neq, none⟩] [5, 6, 7, 8, 9] [])
 (.cond (.t 10)
 (.seq
 (.reg [⟨(some 11), [], [.t 2], [], [], .faddr 0, none⟩,
 ⟨(some 12), [], [.t 11], [2], [], .load true 2, none⟩,
 ⟨(some 13), [], [.t 3], [], [], .faddr 0, none⟩,
 ⟨(some 14), [], [.t 13], [3], [], .load true 2, none⟩,
 ⟨(some 15), [], [.c (.fn (F n_pref04_Compare)), .t 12, .t 14], [], [], .call 0 false, none⟩,
 ⟨(some 4), [15], [.t 15], [], [], .mv, none⟩] [11, 12, 13, 14, 15] [])
 .ret)
 .skip))
 (.seq
 (.reg [⟨(some 16), [], [.t 2], [], [], .faddr 2, none⟩,
 ⟨(some 17), [], [.t 16], [2], [], .load false 1, none⟩,
 ⟨(some 18), [], [.t 3], [], [], .faddr 2, none⟩,
 ⟨(some 19), [], [.t 18], [3], [], .load false 1, none⟩,
 ⟨(some 20), [], [.c (.fn (F n_pref04_ints)), .t 17, .t 19], [], [], .call 0 false, none⟩,
 ⟨(some 4), [20], [.t 20], [], [], .mv, none⟩] [16, 17, 18, 19, 20] [])
 .ret))) }

end Go.AR

/-! Codes, printed by program. -/
namespace Go.AR
def H_pref10_Short : Hints := [(1, { ops := [], kt := [4, 5], kb := [] }),
 (4, { ops := [], kt := [7, 8, 9], kb := [] }),
 (5, { ops := [], kt := [7, 8, 9, 10, 11, 12, 13, 14, 15, 16, 17, 18], kb := [] }),
 (6, { ops := [], kt := [13, 14, 15, 16, 17], kb := [] })]
def c_pref10_Short (F : Nat → FuncId) : AFun := { nparams := 1, ntmps := 19, results := [.tmp 2], body :=
 (.seq
 (.reg [⟨(some 2), [], [.c (.bool false)], [], [], .cp, none⟩] [] [])
 (.seq
 (.seq
 (.reg [⟨(some 4), [], [.t 0], [], [], .cp, none⟩,
 ⟨(some 5), [], [.t 4], [], [], .len false, none⟩,
 ⟨(some 6), [], [.t 5, .c (.int .i64 12)], [], [], .bini .gtr, none⟩] [4, 5] [])
 (.cond (.t 6)
 (.seq
 (.reg [⟨(some 2), [], [.c (.bool false)], [], [], .cp, none⟩] [] [])
 .ret)
 .skip))
 (.seq
 (.seq
 (.reg [⟨(some 3), [], [.c (.int .i64 0)], [], [], .cp, none⟩] [] [])
 (.block 0
 (.loop
 (.seq
 (.seq
 (.reg [⟨(some 7), [], [.t 3], [], [], .cp, none⟩,
 ⟨(some 8), [], [.t 0], [], [], .cp, none⟩,
 ⟨(some 9), [], [.t 8], [], [], .len false, none⟩,
 ⟨(some 10), [], [.t 7, .t 9], [], [], .bini .lss, none⟩] [7, 8, 9] [])
 (.cond (.t 10)
 .skip
 (.exit 0)))
 (.seq
 (.block 1
 (.seq
 (.reg [⟨(some 13), [], [.t 0], [], [], .cp, none⟩,
 ⟨(some 14), [], [.t 3], [], [], .cp, none⟩,
 ⟨(some 15), [], [.t 13, .t 14], [], [], .iaddr none 1, none⟩,
 ⟨(some 16), [], [.t 15], [], [], .load false 1, none⟩,
 ⟨(some 17), [], [.t 16], [], [], .len true, none⟩,
 ⟨(some 18), [], [.t 17, .c (.int .i64 120)], [], [], .bini .gtr, none⟩] [13, 14, 15, 16, 17] [])
 (.cond (.t 18)
 (.seq
 (.reg [⟨(some 2), [], [.c (.bool false)], [], [], .cp, none⟩] [] [])
 .ret)
 .skip)))
 (.reg [⟨(some 11), [], [.t 3], [], [], .cp, none⟩,
 ⟨(some 12), [], [.t 11, .c (.int .i64 1)], [], [], .bini .add, none⟩,
 ⟨(some 3), [12], [.t 12], [], [], .mv, none⟩] [7, 8, 9, 10, 11, 12, 13, 14, 15, 16, 17, 18] []))))))
 (.seq
 (.reg [⟨(some 2), [], [.c (.bool true)], [], [], .cp, none⟩] [] [])
 .ret)))) }

def H_path_Same : Hints := [(1, { ops := [], kt := [5, 6, 7], kb := [] })]
def c_path_Same (F : Nat → FuncId) : AFun := { nparams := 2, ntmps := 8, results := [.tmp 4], body :=
 (.seq
 (.reg [⟨(some 4), [], [.c (.bool false)], [], [], .cp, none⟩] [] [])
 (.seq
 (.reg [⟨(some 5), [], [.t 0], [], [], .cp, none⟩,
 ⟨(some 6), [], [.t 1], [], [], .cp, none⟩,
 ⟨(some 7), [], [.c (.fn (F n_slices_Equal_string_string)), .t 5, .t 6], [], [], .call 0 false, none⟩,
 ⟨(some 4), [7], [.t 7], [], [], .mv, none⟩] [5, 6, 7] [])
 .ret)) }

def H_pref10_Check : Hints := [(1, { ops := [], kt := [4, 5], kb := [] }),
 (3, { ops := [], kt := [7, 8], kb := [] }),
 (6, { ops := [], kt := [10, 11, 12], kb := [] }),
 (7, { ops := [], kt := [10, 11, 12, 13, 14, 15, 16, 17, 18, 19, 20, 21], kb := [] }),
 (8, { ops := [], kt := [16, 17, 18, 19, 20], kb := [] })]
def c_pref10_Check (F : Nat → FuncId) : AFun := { nparams := 1, ntmps := 22, results := [.tmp 2], body :=
 (.seq
 (.reg [⟨(some 2), [], [.c (.int .i64 0)], [], [], .cp, none⟩] [] [])
 (.seq
 (.seq
 (.reg [⟨(some 4), [], [.t 0], [], [], .cp, none⟩,
 ⟨(some 5), [], [.t 4], [], [], .len false, none⟩,
 ⟨(some 6), [], [.t 5, .c (.int .i64 0)], [], [], .bini .eql, none⟩] [4, 5] [])
 (.cond (.t 6)
 (.seq
 (.reg [⟨(some 2), [], [.c (.int .i64 8)], [], [], .cp, none⟩] [] [])
 .ret)
 .skip))
 (.seq
 (.seq
 (.reg [⟨(some 7), [], [.t 0], [], [], .cp, none⟩,
 ⟨(some 8), [], [.t 7], [], [], .len false, none⟩,
 ⟨(some 9), [], [.t 8, .c (.int .i64 8)], [], [], .bini .gtr, none⟩] [7, 8] [])
 (.cond (.t 9)
 (.seq
 (.reg [⟨(some 2), [], [.c (.int .i64 9)], [], [], .cp, none⟩] [] [])
 .ret)
 .skip))
 (.seq
 (.seq
 (.reg [⟨(some 3), [], [.c (.int .i64 0)], [], [], .cp, none⟩] [] [])
 (.block 0
 (.loop
 (.seq
 (.seq
 (.reg [⟨(some 10), [], [.t 3], [], [], .cp, none⟩,
 ⟨(some 11), [], [.t 0], [], [], .cp, none⟩,
 ⟨(some 12), [], [.t 11], [], [], .len false, none⟩,
 ⟨(some 13), [], [.t 10, .t 12], [], [], .bini .lss, none⟩] [10, 11, 12] [])
 (.cond (.t 13)
 .skip
 (.exit 0)))
 (.seq
 (.block 1
 (.seq
 (.reg [⟨(some 16), [], [.t 0], [], [], .cp, none⟩,
 ⟨(some 17), [], [.t 3], [], [], .cp, none⟩,
 ⟨(some 18), [], [.t 16, .t 17], [], [], .iaddr none 1, none⟩,
 ⟨(some 19), [], [.t 18], [], [], .load false 1, none⟩,
 ⟨(some 20), [], [.c (.fn (F n_pref03_Right)), .t 19], [], [], .call 0 false, none⟩,
 ⟨(some 21), [], [.t 20], [], [], .not, none⟩] [16, 17, 18, 19, 20] [])
 (.cond (.t 21)
 (.seq
 (.reg [⟨(some 2), [], [.c (.int .i64 8)], [], [], .cp, none⟩] [] [])
 .ret)
 .skip)))
 (.reg [⟨(some 14), [], [.t 3], [], [], .cp, none⟩,
 ⟨(some 15), [], [.t 14, .c (.int .i64 1)], [], [], .bini .add, none⟩,
 ⟨(some 3), [15], [.t 15], [], [], .mv, none⟩] [10, 11, 12, 13, 14, 15, 16, 17, 18, 19, 20, 21] []))))))
 (.seq
 (.reg [⟨(some 2), [], [.c (.int .i64 0)], [], [], .cp, none⟩] [] [])
 .ret))))) }

def H_pref10_Compare : Hints := [(2, { ops := [], kt := [7, 8, 9, 10, 11, 12, 13, 14, 15], kb := [] }),
 (3, { ops := [], kt := [6, 7, 8, 9, 10, 11, 12, 13, 14, 15, 16, 17, 18, 19, 20, 21, 22, 23, 24, 25, 26, 27, 28, 29, 30], kb := [] }),
 (4, { ops := [], kt := [19, 20, 21, 22, 23, 24, 25, 26, 27], kb := [] }),
 (5, { ops := [], kt := [28], kb := [] }),
 (6, { ops := [], kt := [30], kb := [] }),
 (7, { ops := [], kt := [31, 32, 33, 34], kb := [] }),
 (9, { ops := [], kt := [36, 37, 38, 39], kb := [] })]
def c_pref10_Compare (F : Nat → FuncId) : AFun := { nparams := 2, ntmps := 41, results := [.tmp 4], body :=
 (.seq
 (.reg [⟨(some 4), [], [.c (.int .i64 0)], [], [], .cp, none⟩] [] [])
 (.seq
 (.seq
 (.reg [⟨(some 5), [], [.c (.int .i64 0)], [], [], .cp, none⟩] [] [])
 (.block 0
 (.loop
 (.seq
 (.seq
 (.reg [⟨(some 7), [], [.t 5], [], [], .cp, none⟩,
 ⟨(some 8), [], [.t 0], [], [], .cp, none⟩,
 ⟨(some 9), [], [.t 8], [], [], .len false, none⟩,
 ⟨(some 10), [], [.t 7, .t 9], [], [], .bini .lss, none⟩,
 ⟨(some 11), [], [.t 10], [], [], .cp, none⟩,
 ⟨(some 12), [], [.t 5], [], [], .cp, some (11, true)⟩,
 ⟨(some 13), [], [.t 1], [], [], .cp, some (11, true)⟩,
 ⟨(some 14), [], [.t 13], [], [], .len false, some (11, true)⟩,
 ⟨(some 15), [], [.t 12, .t 14], [], [], .bini .lss, some (11, true)⟩,
 ⟨(some 16), [], [.t 11, .t 15, .c (.bool false)], [], [], .pick, none⟩] [7, 8, 9, 10, 11, 12, 13, 14, 15] [])
 (.cond (.t 16)
 .skip
 (.exit 0)))
 (.seq
 (.block 1
 (.seq
 (.reg [⟨(some 19), [], [.t 0], [], [], .cp, none⟩,
 ⟨(some 20), [], [.t 5], [], [], .cp, none⟩,
 ⟨(some 21), [], [.t 19, .t 20], [], [], .iaddr none 1, none⟩,
 ⟨(some 22), [], [.t 21], [], [], .load false 1, none⟩,
 ⟨(some 23), [], [.t 1], [], [], .cp, none⟩,
 ⟨(some 24), [], [.t 5], [], [], .cp, none⟩,
 ⟨(some 25), [], [.t 23, .t 24], [], [], .iaddr none 1, none⟩,
 ⟨(some 26), [], [.t 25], [], [], .load false 1, none⟩,
 ⟨(some 27), [], [.c (.fn (F n_pref09_Texts)), .t 22, .t 26], [], [], .call 0 false, none⟩,
 ⟨(some 6), [27], [.t 27], [], [], .mv, none⟩] [19, 20, 21, 22, 23, 24, 25, 26, 27] [])
 (.seq
 (.reg [⟨(some 28), [], [.t 6], [], [], .cp, none⟩,
 ⟨(some 29), [], [.t 28, .c (.int .i64 0)], [], [], .bini .neq, none⟩] [28] [])
 (.cond (.t 29)
 (.seq
 (.reg [⟨(some 30), [], [.t 6], [], [], .cp, none⟩,
 ⟨(some 4), [30], [.t 30], [], [], .mv, none⟩] [30] [])
 .ret)
 .skip))))
 (.reg [⟨(some 17), [], [.t 5], [], [], .cp, none⟩,
 ⟨(some 18), [], [.t 17, .c (.int .i64 1)], [], [], .bini .add, none⟩,
 ⟨(some 5), [18], [.t 18], [], [], .mv, none⟩] [6, 7, 8, 9, 10, 11, 12, 13, 14, 15, 16, 17, 18, 19, 20, 21, 22, 23, 24, 25, 26, 27, 28, 29, 30] []))))))
 (.seq
 (.seq
 (.reg [⟨(some 31), [], [.t 0], [], [], .cp, none⟩,
 ⟨(some 32), [], [.t 31], [], [], .len false, none⟩,
 ⟨(some 33), [], [.t 1], [], [], .cp, none⟩,
 ⟨(some 34), [], [.t 33], [], [], .len false, none⟩,
 ⟨(some 35), [], [.t 32, .t 34], [], [], .bini .lss, none⟩] [31, 32, 33, 34] [])
 (.cond (.t 35)
 (.seq
 (.reg [⟨(some 4), [], [.c (.int .i64 (-1))], [], [], .cp, none⟩] [] [])
 .ret)
 .skip))
 (.seq
 (.seq
 (.reg [⟨(some 36), [], [.t 0], [], [], .cp, none⟩,
 ⟨(some 37), [], [.t 36], [], [], .len false, none⟩,
 ⟨(some 38), [], [.t 1], [], [], .cp, none⟩,
 ⟨(some 39), [], [.t 38], [], [], .len false, none⟩,
 ⟨(some 40), [], [.t 37, .t 39], [], [], .bini .gtr, none⟩] [36, 37, 38, 39] [])
 (.cond (.t 40)
 (.seq
 (.reg [⟨(some 4), [], [.c (.int .i64 1)], [], [], .cp, none⟩] [] [])
 .ret)
 .skip))
 (.seq
 (.reg [⟨(some 4), [], [.c (.int .i64 0)], [], [], .cp, none⟩] [] [])
 .ret))))) }

def H_slices_Equal_string_string : Hints := [(1, { ops := [], kt := [6, 7, 8, 9], kb := [] }),
 (3, { ops := [], kt := [11], kb := [] }),
 (5, { ops := [], kt := [15], kb := [] }),
 (6, { ops := [], kt := [16, 17, 18, 19, 20, 21, 22, 23], kb := [] }),
 (8, { ops := [], kt := [5, 14, 15, 16, 17, 18, 19, 20, 21, 22, 23, 24, 25], kb := [] })]
def c_slices_Equal_string_string (F : Nat → FuncId) : AFun := { nparams := 2, ntmps := 26, results := [.tmp 4], body :=
 (.seq
 (.reg [⟨(some 4), [], [.c (.bool false)], [], [], .cp, none⟩] [] [])
 (.seq
 (.seq
 (.reg [⟨(some 6), [], [.t 0], [], [], .cp, none⟩,
 ⟨(some 7), [], [.t 6], [], [], .len false, none⟩,
 ⟨(some 8), [], [.t 1], [], [], .cp, none⟩,
 ⟨(some 9), [], [.t 8], [], [], .len false, none⟩,
 ⟨(some 10), [], [.t 7, .t 9], [], [], .bini .neq, none⟩] [6, 7, 8, 9] [])
 (.cond (.t 10)
 (.seq
 (.reg [⟨(some 4), [], [.c (.bool false)], [], [], .cp, none⟩] [] [])
 .ret)
 .skip))
 (.seq
 (.seq
 (.reg [⟨(some 11), [], [.t 0], [], [], .cp, none⟩,
 ⟨(some 12), [], [.t 11], [], [], .len false, none⟩,
 ⟨(some 13), [], [.c (.int .i64 0)], [], [], .cp, none⟩] [11] [])
 (.block 0
 (.loop
 (.seq
 (.reg [⟨(some 14), [], [.t 13, .t 12], [], [], .bini .lss, none⟩] [] [])
 (.seq
 (.cond (.t 14)
 .skip
 (.exit 0))
 (.seq
 (.block 1
 (.seq
 (.reg [⟨(some 15), [], [.t 13], [], [], .cp, none⟩,
 ⟨(some 5), [15], [.t 15], [], [], .mv, none⟩] [15] [])
 (.seq
 (.reg [⟨(some 16), [], [.t 0], [], [], .cp, none⟩,
 ⟨(some 17), [], [.t 5], [], [], .cp, none⟩,
 ⟨(some 18), [], [.t 16, .t 17], [], [], .iaddr none 1, none⟩,
 ⟨(some 19), [], [.t 18], [], [], .load false 1, none⟩,
 ⟨(some 20), [], [.t 1], [], [], .cp, none⟩,
 ⟨(some 21), [], [.t 5], [], [], .cp, none⟩,
 ⟨(some 22), [], [.t 20, .t 21], [], [], .iaddr none 1, none⟩,
 ⟨(some 23), [], [.t 22], [], [], .load false 1, none⟩,
 ⟨(some 24), [], [.t 19, .t 23], [], [], .bins .neq, none⟩] [16, 17, 18, 19, 20, 21, 22, 23] [])
 (.cond (.t 24)
 (.seq
 (.reg [⟨(some 4), [], [.c (.bool false)], [], [], .cp, none⟩] [] [])
 .ret)
 .skip))))
 (.reg [⟨(some 25), [], [.t 13, .c (.int .i64 1)], [], [], .bini .add, none⟩,
 ⟨(some 13), [], [.t 25], [], [], .cp, none⟩] [5, 14, 15, 16, 17, 18, 19, 20, 21, 22, 23, 24, 25] [])))))))
 (.seq
 (.reg [⟨(some 4), [], [.c (.bool true)], [], [], .cp, none⟩] [] [])
 .ret)))) }

def H_pref09_Texts : Hints := [(2, { ops := [], kt := [6, 7, 8, 9, 10, 11, 12, 13, 14], kb := [] }),
 (3, { ops := [], kt := [6, 7, 8, 9, 10, 11, 12, 13, 14, 15, 16, 17, 18, 19, 20, 21, 22, 23, 24, 25, 26, 27, 28, 29, 30, 31, 32, 33], kb := [] }),
 (4, { ops := [], kt := [18, 19, 20, 21, 22, 23], kb := [] }),
 (5, { ops := [], kt := [25, 26, 27, 28, 29, 30, 31, 32, 33], kb := [] }),
 (6, { ops := [], kt := [34, 35, 36, 37, 38], kb := [] })]
def c_pref09_Texts (F : Nat → FuncId) : AFun := { nparams := 2, ntmps := 39, results := [.tmp 4], body :=
 (.seq
 (.reg [⟨(some 4), [], [.c (.int .i64 0)], [], [], .cp, none⟩] [] [])
 (.seq
 (.seq
 (.reg [⟨(some 5), [], [.c (.int .i64 0)], [], [], .cp, none⟩] [] [])
 (.block 0
 (.loop
 (.seq
 (.seq
 (.reg [⟨(some 6), [], [.t 5], [], [], .cp, none⟩,
 ⟨(some 7), [], [.t 0], [], [], .cp, none⟩,
 ⟨(some 8), [], [.t 7], [], [], .len true, none⟩,
 ⟨(some 9), [], [.t 6, .t 8], [], [], .bini .lss, none⟩,
 ⟨(some 10), [], [.t 9], [], [], .cp, none⟩,
 ⟨(some 11), [], [.t 5], [], [], .cp, some (10, true)⟩,
 ⟨(some 12), [], [.t 1], [], [], .cp, some (10, true)⟩,
 ⟨(some 13), [], [.t 12], [], [], .len true, some (10, true)⟩,
 ⟨(some 14), [], [.t 11, .t 13], [], [], .bini .lss, some (10, true)⟩,
 ⟨(some 15), [], [.t 10, .t 14, .c (.bool false)], [], [], .pick, none⟩] [6, 7, 8, 9, 10, 11, 12, 13, 14] [])
 (.cond (.t 15)
 .skip
 (.exit 0)))
 (.seq
 (.block 1
 (.seq
 (.reg [⟨(some 18), [], [.t 0], [], [], .cp, none⟩,
 ⟨(some 19), [], [.t 5], [], [], .cp, none⟩,
 ⟨(some 20), [], [.t 18, .t 19], [], [], .indexs, none⟩,
 ⟨(some 21), [], [.t 1], [], [], .cp, none⟩,
 ⟨(some 22), [], [.t 5], [], [], .cp, none⟩,
 ⟨(some 23), [], [.t 21, .t 22], [], [], .indexs, none⟩,
 ⟨(some 24), [], [.t 20, .t 23], [], [], .bini .neq, none⟩] [18, 19, 20, 21, 22, 23] [])
 (.cond (.t 24)
 (.seq
 (.reg [⟨(some 25), [], [.t 0], [], [], .cp, none⟩,
 ⟨(some 26), [], [.t 5], [], [], .cp, none⟩,
 ⟨(some 27), [], [.t 25, .t 26], [], [], .indexs, none⟩,
 ⟨(some 28), [], [.t 27], [], [], .conv .i64, none⟩,
 ⟨(some 29), [], [.t 1], [], [], .cp, none⟩,
 ⟨(some 30), [], [.t 5], [], [], .cp, none⟩,
 ⟨(some 31), [], [.t 29, .t 30], [], [], .indexs, none⟩,
 ⟨(some 32), [], [.t 31], [], [], .conv .i64, none⟩,
 ⟨(some 33), [], [.c (.fn (F n_pref09_ints)), .t 28, .t 32], [], [], .call 0 false, none⟩,
 ⟨(some 4), [33], [.t 33], [], [], .mv, none⟩] [25, 26, 27, 28, 29, 30, 31, 32, 33] [])
 .ret)
 .skip)))
 (.reg [⟨(some 16), [], [.t 5], [], [], .cp, none⟩,
 ⟨(some 17), [], [.t 16, .c (.int .i64 1)], [], [], .bini .add, none⟩,
 ⟨(some 5), [17], [.t 17], [], [], .mv, none⟩] [6, 7, 8, 9, 10, 11, 12, 13, 14, 15, 16, 17, 18, 19, 20, 21, 22, 23, 24, 25, 26, 27, 28, 29, 30, 31, 32, 33] []))))))
 (.seq
 (.reg [⟨(some 34), [], [.t 0], [], [], .cp, none⟩,
 ⟨(some 35), [], [.t 34], [], [], .len true, none⟩,
 ⟨(some 36), [], [.t 1], [], [], .cp, none⟩,
 ⟨(some 37), [], [.t 36], [], [], .len true, none⟩,
 ⟨(some 38), [], [.c (.fn (F n_pref09_ints)), .t 35, .t 37], [], [], .call 0 false, none⟩,
 ⟨(some 4), [38], [.t 38], [], [], .mv, none⟩] [34, 35, 36, 37, 38] [])
 .ret))) }

def H_pref09_ints : Hints := [(1, { ops := [], kt := [5, 6], kb := [] }),
 (3, { ops := [], kt := [8, 9], kb := [] })]
def c_pref09_ints (F : Nat → FuncId) : AFun := { nparams := 2, ntmps := 11, results := [.tmp 4], body :=
 (.seq
 (.reg [⟨(some 4), [], [.c (.int .i64 0)], [], [], .cp, none⟩] [] [])
 (.seq
 (.seq
 (.reg [⟨(some 5), [], [.t 0], [], [], .cp, none⟩,
 ⟨(some 6), [], [.t 1], [], [], .cp, none⟩,
 ⟨(some 7), [], [.t 5, .t 6], [], [], .bini .lss, none⟩] [5, 6] [])
 (.cond (.t 7)
 (.seq
 (.reg [⟨(some 4), [], [.c (.int .i64 (-1))], [], [], .cp, none⟩] [] [])
 .ret)
 .skip))
 (.seq
 (.seq
 (.reg [⟨(some 8), [], [.t 0], [], [], .cp, none⟩,
 ⟨(some 9), [], [.t 1], [], [], .cp, none⟩,
 ⟨(some 10), [], [.t 8, .t 9], [], [], .bini .gtr, none⟩] [8, 9] [])
 (.cond (.t 10)
 (.seq
 (.reg [⟨(some 4), [], [.c (.int .i64 1)], [], [], .cp, none⟩] [] [])
 .ret)
 .skip))
 (.seq
 (.reg [⟨(some 4), [], [.c (.int .i64 0)], [], [], .cp, none⟩] [] [])
 .ret)))) }

end Go.AR
