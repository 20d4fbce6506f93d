import Derived.Test.YtillphnjhefioaaG02
import Derived.Test.YtillphnjhefioaaG03
set_option linter.all false
/-! Codes, printed by program. -/
namespace Go.AR
def H_pref12_Short : Hints := [(1, { ops := [(1, { mr := [1] })], kt := [4, 5, 6], kb := [] }),
 (4, { ops := [(2, { mr := [1] })], kt := [8, 9, 10, 11], kb := [] }),
 (5, { ops := [], kt := [8, 9, 10, 11, 12, 13, 14, 15, 16, 17, 18, 19, 20, 21], kb := [] }),
 (6, { ops := [(1, { mr := [1] })], kt := [15, 16, 17, 18, 19, 20], kb := [] })]
def c_pref12_Short (F : Nat → FuncId) : AFun := { nparams := 1, ntmps := 22, results := [.tmp 2], body :=
 (.seq
 (.reg [⟨(some 1), [], [.t 0], [], [1], .box, none⟩,
 ⟨(some 2), [], [.c (.bool false)], [], [], .cp, none⟩] [] [])
 (.seq
 (.seq
 (.reg [⟨(some 4), [], [.t 1], [], [], .faddr 5, none⟩,
 ⟨(some 5), [], [.t 4], [1], [], .load false 1, none⟩,
 ⟨(some 6), [], [.t 5], [], [], .len false, none⟩,
 ⟨(some 7), [], [.t 6, .c (.int .i64 20)], [], [], .bini .gtr, none⟩] [4, 5, 6] [])
 (.cond (.t 7)
 (.seq
 (.reg [⟨(some 2), [], [.c (.bool false)], [], [], .cp, none⟩] [] [])
 .ret)
 .skip))
 (.seq
 (.seq
 (.reg [⟨(some 3), [], [.c (.int .i64 0)], [], [], .cp, none⟩] [] [])
 (.block 0
 (.loop
 (.seq
 (.seq
 (.reg [⟨(some 8), [], [.t 3], [], [], .cp, none⟩,
 ⟨(some 9), [], [.t 1], [], [], .faddr 5, none⟩,
 ⟨(some 10), [], [.t 9], [1], [], .load false 1, none⟩,
 ⟨(some 11), [], [.t 10], [], [], .len false, none⟩,
 ⟨(some 12), [], [.t 8, .t 11], [], [], .bini .lss, none⟩] [8, 9, 10, 11] [])
 (.cond (.t 12)
 .skip
 (.exit 0)))
 (.seq
 (.block 1
 (.seq
 (.reg [⟨(some 15), [], [.t 1], [], [], .faddr 5, none⟩,
 ⟨(some 16), [], [.t 15], [1], [], .load false 1, none⟩,
 ⟨(some 17), [], [.t 3], [], [], .cp, none⟩,
 ⟨(some 18), [], [.t 16, .t 17], [], [], .iaddr none 7, none⟩,
 ⟨(some 19), [], [.t 18], [], [], .load true 7, none⟩,
 ⟨(some 20), [], [.c (.fn (F n_pref11_Short)), .t 19], [], [], .call 0 false, none⟩,
 ⟨(some 21), [], [.t 20], [], [], .not, none⟩] [15, 16, 17, 18, 19, 20] [])
 (.cond (.t 21)
 (.seq
 (.reg [⟨(some 2), [], [.c (.bool false)], [], [], .cp, none⟩] [] [])
 .ret)
 .skip)))
 (.reg [⟨(some 13), [], [.t 3], [], [], .cp, none⟩,
 ⟨(some 14), [], [.t 13, .c (.int .i64 1)], [], [], .bini .add, none⟩,
 ⟨(some 3), [14], [.t 14], [], [], .mv, none⟩] [8, 9, 10, 11, 12, 13, 14, 15, 16, 17, 18, 19, 20, 21] []))))))
 (.seq
 (.reg [⟨(some 2), [], [.c (.bool true)], [], [], .cp, none⟩] [] [])
 .ret)))) }

def H_pref12_Check : Hints := [(1, { ops := [(1, { mr := [1] }), (6, { mr := [1] }), (11, { mr := [1] }), (16, { mr := [1] }), (21, { mr := [1] })], kt := [5, 6, 7, 8, 9, 10, 11, 12, 13, 14, 15, 16, 17, 18, 19, 20, 21, 22, 23, 24, 25, 26, 27], kb := [] }),
 (3, { ops := [(1, { mr := [1] })], kt := [29, 30, 31], kb := [] }),
 (5, { ops := [(1, { mr := [1] })], kt := [33, 34, 35], kb := [] }),
 (8, { ops := [(2, { mr := [1] })], kt := [37, 38, 39, 40], kb := [] }),
 (9, { ops := [], kt := [4, 37, 38, 39, 40, 41, 42, 43, 44, 45, 46, 47, 48, 49, 50, 51, 52, 53, 54, 55, 56, 57, 58, 59, 60, 61, 62, 63, 64, 65], kb := [] }),
 (10, { ops := [(1, { mr := [1] })], kt := [44, 45, 46, 47, 48, 49], kb := [] }),
 (11, { ops := [(4, { mr := [1] }), (7, { mr := [1] })], kt := [50, 51, 52, 53, 54, 55, 56, 57, 58, 59, 60, 61, 62, 63], kb := [] }),
 (12, { ops := [], kt := [65], kb := [] })]
def c_pref12_Check (F : Nat → FuncId) : AFun := { nparams := 1, ntmps := 66, results := [.tmp 2], body :=
 (.seq
 (.reg [⟨(some 1), [], [.t 0], [], [1], .box, none⟩,
 ⟨(some 2), [], [.c (.int .i64 0)], [], [], .cp, none⟩] [] [])
 (.seq
 (.seq
 (.reg [⟨(some 5), [], [.t 1], [], [], .faddr 0, none⟩,
 ⟨(some 6), [], [.t 5], [1], [], .load true 2, none⟩,
 ⟨(some 7), [], [.c (.fn (F n_pref04_Right)), .t 6], [], [], .call 0 false, none⟩,
 ⟨(some 8), [], [.t 7], [], [], .not, none⟩,
 ⟨(some 9), [], [.t 8], [], [], .cp, none⟩,
 ⟨(some 10), [], [.t 1], [], [], .faddr 2, some (9, false)⟩,
 ⟨(some 11), [], [.t 10], [1], [], .load false 1, some (9, false)⟩,
 ⟨(some 12), [], [.t 11, .c (.int .i64 0)], [], [], .bini .lss, some (9, false)⟩,
 ⟨(some 13), [], [.t 9, .c (.bool true), .t 12], [], [], .pick, none⟩,
 ⟨(some 14), [], [.t 13], [], [], .cp, none⟩,
 ⟨(some 15), [], [.t 1], [], [], .faddr 2, some (14, false)⟩,
 ⟨(some 16), [], [.t 15], [1], [], .load false 1, some (14, false)⟩,
 ⟨(some 17), [], [.t 16, .c (.int .i64 7)], [], [], .bini .gtr, some (14, false)⟩,
 ⟨(some 18), [], [.t 14, .c (.bool true), .t 17], [], [], .pick, none⟩,
 ⟨(some 19), [], [.t 18], [], [], .cp, none⟩,
 ⟨(some 20), [], [.t 1], [], [], .faddr 3, some (19, false)⟩,
 ⟨(some 21), [], [.t 20], [1], [], .load false 1, some (19, false)⟩,
 ⟨(some 22), [], [.t 21, .c (.int .i64 1)], [], [], .bini .lss, some (19, false)⟩,
 ⟨(some 23), [], [.t 19, .c (.bool true), .t 22], [], [], .pick, none⟩,
 ⟨(some 24), [], [.t 23], [], [], .cp, none⟩,
 ⟨(some 25), [], [.t 1], [], [], .faddr 3, some (24, false)⟩,
 ⟨(some 26), [], [.t 25], [1], [], .load false 1, some (24, false)⟩,
 ⟨(some 27), [], [.t 26, .c (.int .i64 1099511627776)], [], [], .bini .gtr, some (24, false)⟩,
 ⟨(some 28), [], [.t 24, .c (.bool true), .t 27], [], [], .pick, none⟩] [5, 6, 7, 8, 9, 10, 11, 12, 13, 14, 15, 16, 17, 18, 19, 20, 21, 22, 23, 24, 25, 26, 27] [])
 (.cond (.t 28)
 (.seq
 (.reg [⟨(some 2), [], [.c (.int .i64 2)], [], [], .cp, none⟩] [] [])
 .ret)
 .skip))
 (.seq
 (.seq
 (.reg [⟨(some 29), [], [.t 1], [], [], .faddr 5, none⟩,
 ⟨(some 30), [], [.t 29], [1], [], .load false 1, none⟩,
 ⟨(some 31), [], [.t 30], [], [], .len false, none⟩,
 ⟨(some 32), [], [.t 31, .c (.int .i64 0)], [], [], .bini .eql, none⟩] [29, 30, 31] [])
 (.cond (.t 32)
 (.seq
 (.reg [⟨(some 2), [], [.c (.int .i64 11)], [], [], .cp, none⟩] [] [])
 .ret)
 .skip))
 (.seq
 (.seq
 (.reg [⟨(some 33), [], [.t 1], [], [], .faddr 5, none⟩,
 ⟨(some 34), [], [.t 33], [1], [], .load false 1, none⟩,
 ⟨(some 35), [], [.t 34], [], [], .len false, none⟩,
 ⟨(some 36), [], [.t 35, .c (.int .i64 16)], [], [], .bini .gtr, none⟩] [33, 34, 35] [])
 (.cond (.t 36)
 (.seq
 (.reg [⟨(some 2), [], [.c (.int .i64 7)], [], [], .cp, none⟩] [] [])
 .ret)
 .skip))
 (.seq
 (.seq
 (.reg [⟨(some 3), [], [.c (.int .i64 0)], [], [], .cp, none⟩] [] [])
 (.block 0
 (.loop
 (.seq
 (.seq
 (.reg [⟨(some 37), [], [.t 3], [], [], .cp, none⟩,
 ⟨(some 38), [], [.t 1], [], [], .faddr 5, none⟩,
 ⟨(some 39), [], [.t 38], [1], [], .load false 1, none⟩,
 ⟨(some 40), [], [.t 39], [], [], .len false, none⟩,
 ⟨(some 41), [], [.t 37, .t 40], [], [], .bini .lss, none⟩] [37, 38, 39, 40] [])
 (.cond (.t 41)
 .skip
 (.exit 0)))
 (.seq
 (.block 1
 (.seq
 (.reg [⟨(some 44), [], [.t 1], [], [], .faddr 5, none⟩,
 ⟨(some 45), [], [.t 44], [1], [], .load false 1, none⟩,
 ⟨(some 46), [], [.t 3], [], [], .cp, none⟩,
 ⟨(some 47), [], [.t 45, .t 46], [], [], .iaddr none 7, none⟩,
 ⟨(some 48), [], [.t 47], [], [], .load true 7, none⟩,
 ⟨(some 49), [], [.c (.fn (F n_pref11_Check)), .t 48], [], [], .call 0 false, none⟩,
 ⟨(some 4), [49], [.t 49], [], [], .mv, none⟩] [44, 45, 46, 47, 48, 49] [])
 (.seq
 (.reg [⟨(some 50), [], [.t 4], [], [], .cp, none⟩,
 ⟨(some 51), [], [.t 50, .c (.int .i64 0)], [], [], .bini .neq, none⟩,
 ⟨(some 52), [], [.t 51], [], [], .cp, none⟩,
 ⟨(some 53), [], [.t 1], [], [], .faddr 4, some (52, true)⟩,
 ⟨(some 54), [], [.t 53], [1], [], .load false 1, some (52, true)⟩,
 ⟨(some 55), [], [.t 54], [], [], .cp, some (52, true)⟩,
 ⟨(some 56), [], [.t 1], [], [], .faddr 5, some (55, true)⟩,
 ⟨(some 57), [], [.t 56], [1], [], .load false 1, some (55, true)⟩,
 ⟨(some 58), [], [.t 3], [], [], .cp, some (55, true)⟩,
 ⟨(some 59), [], [.t 57, .t 58], [], [], .iaddr none 7, some (55, true)⟩,
 ⟨(some 60), [], [.t 59], [], [], .load true 7, some (55, true)⟩,
 ⟨(some 61), [], [.c (.fn (F n_pref11_Gone)), .t 60], [], [], .call 0 false, some (55, true)⟩,
 ⟨(some 62), [], [.t 55, .t 61, .c (.bool false)], [], [], .pick, some (52, true)⟩,
 ⟨(some 63), [], [.t 62], [], [], .not, some (52, true)⟩,
 ⟨(some 64), [], [.t 52, .t 63, .c (.bool false)], [], [], .pick, none⟩] [50, 51, 52, 53, 54, 55, 56, 57, 58, 59, 60, 61, 62, 63] [])
 (.cond (.t 64)
 (.seq
 (.reg [⟨(some 65), [], [.t 4], [], [], .cp, none⟩,
 ⟨(some 2), [65], [.t 65], [], [], .mv, none⟩] [65] [])
 .ret)
 .skip))))
 (.reg [⟨(some 42), [], [.t 3], [], [], .cp, none⟩,
 ⟨(some 43), [], [.t 42, .c (.int .i64 1)], [], [], .bini .add, none⟩,
 ⟨(some 3), [43], [.t 43], [], [], .mv, none⟩] [4, 37, 38, 39, 40, 41, 42, 43, 44, 45, 46, 47, 48, 49, 50, 51, 52, 53, 54, 55, 56, 57, 58, 59, 60, 61, 62, 63, 64, 65] []))))))
 (.seq
 (.reg [⟨(some 2), [], [.c (.int .i64 0)], [], [], .cp, none⟩] [] [])
 .ret)))))) }

def H_pref12_Rises : Hints := [(2, { ops := [], kt := [4, 5, 6], kb := [] }),
 (3, { ops := [], kt := [4, 5, 6, 7, 8, 9, 10, 11, 12, 13, 14, 15, 16, 17, 18, 19, 20, 21, 22], kb := [] }),
 (4, { ops := [], kt := [10, 11, 12, 13, 14, 15, 16, 17, 18, 19, 20, 21], kb := [] })]
def c_pref12_Rises (F : Nat → FuncId) : AFun := { nparams := 1, ntmps := 23, results := [.tmp 2], body :=
 (.seq
 (.reg [⟨(some 2), [], [.c (.bool false)], [], [], .cp, none⟩] [] [])
 (.seq
 (.seq
 (.reg [⟨(some 3), [], [.c (.int .i64 1)], [], [], .cp, none⟩] [] [])
 (.block 0
 (.loop
 (.seq
 (.seq
 (.reg [⟨(some 4), [], [.t 3], [], [], .cp, none⟩,
 ⟨(some 5), [], [.t 0], [], [], .cp, none⟩,
 ⟨(some 6), [], [.t 5], [], [], .len false, none⟩,
 ⟨(some 7), [], [.t 4, .t 6], [], [], .bini .lss, none⟩] [4, 5, 6] [])
 (.cond (.t 7)
 .skip
 (.exit 0)))
 (.seq
 (.block 1
 (.seq
 (.reg [⟨(some 10), [], [.t 0], [], [], .cp, none⟩,
 ⟨(some 11), [], [.t 3], [], [], .cp, none⟩,
 ⟨(some 12), [], [.t 11, .c (.int .i64 1)], [], [], .bini .sub, none⟩,
 ⟨(some 13), [], [.t 10, .t 12], [], [], .iaddr none 6, none⟩,
 ⟨(some 14), [], [.t 13], [], [], .faddr 0, none⟩,
 ⟨(some 15), [], [.t 14], [], [], .load true 2, none⟩,
 ⟨(some 16), [], [.t 0], [], [], .cp, none⟩,
 ⟨(some 17), [], [.t 3], [], [], .cp, none⟩,
 ⟨(some 18), [], [.t 16, .t 17], [], [], .iaddr none 6, none⟩,
 ⟨(some 19), [], [.t 18], [], [], .faddr 0, none⟩,
 ⟨(some 20), [], [.t 19], [], [], .load true 2, none⟩,
 ⟨(some 21), [], [.c (.fn (F n_pref04_Compare)), .t 15, .t 20], [], [], .call 0 false, none⟩,
 ⟨(some 22), [], [.t 21, .c (.int .i64 (-1))], [], [], .bini .neq, none⟩] [10, 11, 12, 13, 14, 15, 16, 17, 18, 19, 20, 21] [])
 (.cond (.t 22)
 (.seq
 (.reg [⟨(some 2), [], [.c (.bool false)], [], [], .cp, none⟩] [] [])
 .ret)
 .skip)))
 (.reg [⟨(some 8), [], [.t 3], [], [], .cp, none⟩,
 ⟨(some 9), [], [.t 8, .c (.int .i64 1)], [], [], .bini .add, none⟩,
 ⟨(some 3), [9], [.t 9], [], [], .mv, none⟩] [4, 5, 6, 7, 8, 9, 10, 11, 12, 13, 14, 15, 16, 17, 18, 19, 20, 21, 22] []))))))
 (.seq
 (.reg [⟨(some 2), [], [.c (.bool true)], [], [], .cp, none⟩] [] [])
 .ret))) }

def H_pref12_Good : Hints := [(1, { ops := [], kt := [6, 7, 8, 9, 10, 11, 12, 13], kb := [] }),
 (4, { ops := [], kt := [15, 16, 17], kb := [] }),
 (5, { ops := [], kt := [15, 16, 17, 18, 19, 20, 21, 22, 23, 24, 25, 26, 27, 28, 29, 30, 31, 32, 33, 34], kb := [] }),
 (6, { ops := [], kt := [21, 22, 23, 24, 25, 26, 27, 28, 29, 30, 31, 32, 33], kb := [] })]
def c_pref12_Good (F : Nat → FuncId) : AFun := { nparams := 2, ntmps := 35, results := [.tmp 4], body :=
 (.seq
 (.reg [⟨(some 4), [], [.c (.bool false)], [], [], .cp, none⟩] [] [])
 (.seq
 (.seq
 (.reg [⟨(some 6), [], [.t 0], [], [], .cp, none⟩,
 ⟨(some 7), [], [.t 6], [], [], .len false, none⟩,
 ⟨(some 8), [], [.t 1], [], [], .cp, none⟩,
 ⟨(some 9), [], [.t 7, .t 8], [], [], .bini .gtr, none⟩,
 ⟨(some 10), [], [.t 9], [], [], .cp, none⟩,
 ⟨(some 11), [], [.t 0], [], [], .cp, some (10, false)⟩,
 ⟨(some 12), [], [.c (.fn (F n_pref12_Rises)), .t 11], [], [], .call 0 false, some (10, false)⟩,
 ⟨(some 13), [], [.t 12], [], [], .not, some (10, false)⟩,
 ⟨(some 14), [], [.t 10, .c (.bool true), .t 13], [], [], .pick, none⟩] [6, 7, 8, 9, 10, 11, 12, 13] [])
 (.cond (.t 14)
 (.seq
 (.reg [⟨(some 4), [], [.c (.bool false)], [], [], .cp, none⟩] [] [])
 .ret)
 .skip))
 (.seq
 (.seq
 (.reg [⟨(some 5), [], [.c (.int .i64 0)], [], [], .cp, none⟩] [] [])
 (.block 0
 (.loop
 (.seq
 (.seq
 (.reg [⟨(some 15), [], [.t 5], [], [], .cp, none⟩,
 ⟨(some 16), [], [.t 0], [], [], .cp, none⟩,
 ⟨(some 17), [], [.t 16], [], [], .len false, none⟩,
 ⟨(some 18), [], [.t 15, .t 17], [], [], .bini .lss, none⟩] [15, 16, 17] [])
 (.cond (.t 18)
 .skip
 (.exit 0)))
 (.seq
 (.block 1
 (.seq
 (.reg [⟨(some 21), [], [.t 0], [], [], .cp, none⟩,
 ⟨(some 22), [], [.t 5], [], [], .cp, none⟩,
 ⟨(some 23), [], [.t 21, .t 22], [], [], .iaddr none 6, none⟩,
 ⟨(some 24), [], [.t 23], [], [], .load true 6, none⟩,
 ⟨(some 25), [], [.c (.fn (F n_pref12_Short)), .t 24], [], [], .call 0 false, none⟩,
 ⟨(some 26), [], [.t 25], [], [], .not, none⟩,
 ⟨(some 27), [], [.t 26], [], [], .cp, none⟩,
 ⟨(some 28), [], [.t 0], [], [], .cp, some (27, false)⟩,
 ⟨(some 29), [], [.t 5], [], [], .cp, some (27, false)⟩,
 ⟨(some 30), [], [.t 28, .t 29], [], [], .iaddr none 6, some (27, false)⟩,
 ⟨(some 31), [], [.t 30], [], [], .load true 6, some (27, false)⟩,
 ⟨(some 32), [], [.c (.fn (F n_pref12_Check)), .t 31], [], [], .call 0 false, some (27, false)⟩,
 ⟨(some 33), [], [.t 32, .c (.int .i64 0)], [], [], .bini .neq, some (27, false)⟩,
 ⟨(some 34), [], [.t 27, .c (.bool true), .t 33], [], [], .pick, none⟩] [21, 22, 23, 24, 25, 26, 27, 28, 29, 30, 31, 32, 33] [])
 (.cond (.t 34)
 (.seq
 (.reg [⟨(some 4), [], [.c (.bool false)], [], [], .cp, none⟩] [] [])
 .ret)
 .skip)))
 (.reg [⟨(some 19), [], [.t 5], [], [], .cp, none⟩,
 ⟨(some 20), [], [.t 19, .c (.int .i64 1)], [], [], .bini .add, none⟩,
 ⟨(some 5), [20], [.t 20], [], [], .mv, none⟩] [15, 16, 17, 18, 19, 20, 21, 22, 23, 24, 25, 26, 27, 28, 29, 30, 31, 32, 33, 34] []))))))
 (.seq
 (.reg [⟨(some 4), [], [.c (.bool true)], [], [], .cp, none⟩] [] [])
 .ret)))) }

end Go.AR
