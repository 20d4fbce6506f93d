import Derived.Test.YtillphnjhefioaaG02
import Derived.Test.YtillphnjhefioaaG03
set_option linter.all false
/-! Codes, printed by program. -/
namespace Go.AR
def H_plaw13_LiveAgain : Hints := [(1, { ops := [(6, { mr := [5] })], kt := [13, 14, 15, 16, 17, 18, 19, 20], kb := [] }),
 (2, { ops := [], kt := [22], kb := [] }),
 (3, { ops := [(1, { mr := [5] })], kt := [23, 24, 25], kb := [] }),
 (4, { ops := [], kt := [26], kb := [] }),
 (5, { ops := [], kt := [28], kb := [] }),
 (6, { ops := [], kt := [29, 30, 31], kb := [] }),
 (8, { ops := [], kt := [32, 33, 34, 35, 36, 37, 38], kb := [] }),
 (9, { ops := [], kt := [10, 11, 12, 32, 33, 34, 35, 36, 37, 38, 39, 40, 41, 42, 43, 44, 45, 46, 47, 48, 49, 50, 51, 52, 53, 54, 55, 56, 57, 58, 59, 60, 61, 62, 63, 64, 65, 66, 67, 68, 69, 70, 71, 72, 73, 74, 75, 76, 77, 78, 79, 80, 81, 82, 83, 84, 85, 86, 87, 88, 89, 90, 91, 92, 93, 94, 95, 96, 97, 98, 99, 100, 101, 102, 103, 104, 105, 106, 107, 108, 109, 110, 111, 112, 113, 114, 115, 116, 117, 118, 119, 120, 121, 122, 123, 124, 125, 126, 127], kb := [] }),
 (11, { ops := [], kt := [42, 43, 44, 45, 46, 47, 48, 49, 50, 51, 52], kb := [] }),
 (12, { ops := [], kt := [11, 12, 42, 43, 44, 45, 46, 47, 48, 49, 50, 51, 52, 53, 54, 55, 56, 57, 58, 59, 60, 61, 62, 63, 64, 65, 66, 67, 68, 69, 70, 71, 72, 73, 74, 75, 76, 77, 78, 79, 80, 81, 82, 83, 84, 85, 86, 87, 88, 89, 90, 91, 92, 93, 94, 95, 96, 97, 98, 99, 100, 101, 102, 103, 104, 105, 106, 107, 108, 109, 110, 111, 112, 113, 114, 115, 116, 117, 118, 119, 120, 121, 122, 123, 124, 125, 126, 127], kb := [11] }),
 (13, { ops := [(13, { mw := [11] })], kt := [56, 57, 58, 59, 60, 61, 62, 63, 64, 65, 66, 67], kb := [] }),
 (14, { ops := [(2, { mr := [11] })], kt := [68, 69, 70, 71], kb := [] }),
 (15, { ops := [(4, { mr := [11] }), (20, { mr := [11] }), (33, { mr := [11] }), (42, { mr := [11] }), (49, { mr := [11] })], kt := [72, 73, 74, 75, 76, 77, 78, 79, 80, 81, 82, 83, 84, 85, 86, 87, 88, 89, 90, 91, 92, 93, 94, 95, 96, 97, 98, 99, 100, 101, 102, 103, 104, 105, 106, 107, 108, 109, 110, 111, 112, 113, 114, 115, 116, 117, 118, 119, 120, 121, 122], kb := [] }),
 (16, { ops := [(1, { mr := [11] })], kt := [124, 125, 126], kb := [] }),
 (18, { ops := [], kt := [128], kb := [] })]
def c_plaw13_LiveAgain (F : Nat → FuncId) : AFun := { nparams := 3, ntmps := 129, results := [.tmp 6], body :=
 (.seq
 (.reg [⟨(some 5), [], [.t 2], [], [5], .box, none⟩,
 ⟨(some 6), [], [.c (.bool false)], [], [], .cp, none⟩] [] [])
 (.seq
 (.seq
 (.reg [⟨(some 13), [], [.t 0], [], [], .cp, none⟩,
 ⟨(some 14), [], [.t 1], [], [], .cp, none⟩,
 ⟨(some 15), [], [.c (.fn (F n_plaw13_Good)), .t 13, .t 14], [], [], .call 0 false, none⟩,
 ⟨(some 16), [], [.t 15], [], [], .not, none⟩,
 ⟨(some 17), [], [.t 16], [], [], .cp, none⟩,
 ⟨(some 18), [], [.t 1], [], [], .cp, some (17, false)⟩,
 ⟨(some 19), [], [.t 5], [5], [], .load true 2, some (17, false)⟩,
 ⟨(some 20), [], [.c (.fn (F n_pref08_Seen)), .t 18, .t 19], [], [], .call 0 false, some (17, false)⟩,
 ⟨(some 21), [], [.t 17, .c (.bool true), .t 20], [], [], .pick, none⟩] [13, 14, 15, 16, 17, 18, 19, 20] [])
 (.cond (.t 21)
 (.seq
 (.reg [⟨(some 22), [], [.c (.fn (F n_plaw13_awake))], [], [], .call 0 false, none⟩,
 ⟨(some 6), [22], [.t 22], [], [], .mv, none⟩] [22] [])
 .ret)
 .skip))
 (.seq
 (.reg [⟨(some 23), [], [.t 0], [], [], .cp, none⟩,
 ⟨(some 24), [], [.t 5], [5], [], .load true 2, none⟩,
 ⟨(some 25), [], [.c (.fn (F n_pref12_Find)), .t 23, .t 24], [], [], .call 0 false, none⟩,
 ⟨(some 7), [25], [.t 25], [], [], .mv, none⟩] [23, 24, 25] [])
 (.seq
 (.seq
 (.reg [⟨(some 26), [], [.t 7], [], [], .cp, none⟩,
 ⟨(some 27), [], [.t 26, .c (.int .i64 0)], [], [], .bini .lss, none⟩] [26] [])
 (.cond (.t 27)
 (.seq
 (.reg [⟨(some 28), [], [.c (.fn (F n_plaw13_awake))], [], [], .call 0 false, none⟩,
 ⟨(some 6), [28], [.t 28], [], [], .mv, none⟩] [28] [])
 .ret)
 .skip))
 (.seq
 (.reg [⟨(some 29), [], [.t 0], [], [], .cp, none⟩,
 ⟨(some 30), [], [.t 1], [], [], .cp, none⟩,
 ⟨(some 31), [], [.c (.fn (F n_live_All)), .t 29, .t 30], [], [], .call 0 false, none⟩,
 ⟨(some 8), [31], [.t 31], [], [], .mv, none⟩] [29, 30, 31] [])
 (.seq
 (.seq
 (.reg [⟨(some 9), [], [.c (.int .i64 0)], [], [], .cp, none⟩] [] [])
 (.block 0
 (.loop
 (.seq
 (.seq
 (.reg [⟨(some 32), [], [.t 9], [], [], .cp, none⟩,
 ⟨(some 33), [], [.t 0], [], [], .cp, none⟩,
 ⟨(some 34), [], [.t 7], [], [], .cp, none⟩,
 ⟨(some 35), [], [.t 33, .t 34], [], [], .iaddr none 6, none⟩,
 ⟨(some 36), [], [.t 35], [], [], .faddr 5, none⟩,
 ⟨(some 37), [], [.t 36], [], [], .load false 1, none⟩,
 ⟨(some 38), [], [.t 37], [], [], .len false, none⟩,
 ⟨(some 39), [], [.t 32, .t 38], [], [], .bini .lss, none⟩] [32, 33, 34, 35, 36, 37, 38] [])
 (.cond (.t 39)
 .skip
 (.exit 0)))
 (.seq
 (.block 1
 (.seq
 (.reg [⟨(some 10), [], [.c (.int .i64 0)], [], [], .cp, none⟩] [] [])
 (.block 2
 (.loop
 (.seq
 (.seq
 (.reg [⟨(some 42), [], [.t 10], [], [], .cp, none⟩,
 ⟨(some 43), [], [.t 0], [], [], .cp, none⟩,
 ⟨(some 44), [], [.t 7], [], [], .cp, none⟩,
 ⟨(some 45), [], [.t 43, .t 44], [], [], .iaddr none 6, none⟩,
 ⟨(some 46), [], [.t 45], [], [], .faddr 5, none⟩,
 ⟨(some 47), [], [.t 46], [], [], .load false 1, none⟩,
 ⟨(some 48), [], [.t 9], [], [], .cp, none⟩,
 ⟨(some 49), [], [.t 47, .t 48], [], [], .iaddr none 7, none⟩,
 ⟨(some 50), [], [.t 49], [], [], .faddr 6, none⟩,
 ⟨(some 51), [], [.t 50], [], [], .load false 1, none⟩,
 ⟨(some 52), [], [.t 51], [], [], .len false, none⟩,
 ⟨(some 53), [], [.t 42, .t 52], [], [], .bini .lss, none⟩] [42, 43, 44, 45, 46, 47, 48, 49, 50, 51, 52] [])
 (.cond (.t 53)
 .skip
 (.exit 2)))
 (.seq
 (.block 3
 (.seq
 (.reg [⟨(some 56), [], [.t 0], [], [], .cp, none⟩,
 ⟨(some 57), [], [.t 7], [], [], .cp, none⟩,
 ⟨(some 58), [], [.t 56, .t 57], [], [], .iaddr none 6, none⟩,
 ⟨(some 59), [], [.t 58], [], [], .faddr 5, none⟩,
 ⟨(some 60), [], [.t 59], [], [], .load false 1, none⟩,
 ⟨(some 61), [], [.t 9], [], [], .cp, none⟩,
 ⟨(some 62), [], [.t 60, .t 61], [], [], .iaddr none 7, none⟩,
 ⟨(some 63), [], [.t 62], [], [], .faddr 6, none⟩,
 ⟨(some 64), [], [.t 63], [], [], .load false 1, none⟩,
 ⟨(some 65), [], [.t 10], [], [], .cp, none⟩,
 ⟨(some 66), [], [.t 64, .t 65], [], [], .iaddr none 3, none⟩,
 ⟨(some 67), [], [.t 66], [], [], .load true 3, none⟩,
 ⟨(some 11), [], [], [], [11], .alloc [.val (.int .i64 0), .val (.int .i64 0), .val (.int .i64 0)], none⟩,
 ⟨none, [67], [.t 11, .t 67], [], [11], .store true 3, none⟩] [56, 57, 58, 59, 60, 61, 62, 63, 64, 65, 66, 67] [])
 (.seq
 (.reg [⟨(some 68), [], [.t 0], [], [], .cp, none⟩,
 ⟨(some 69), [], [.t 11], [], [], .faddr 0, none⟩,
 ⟨(some 70), [], [.t 69], [11], [], .load true 2, none⟩,
 ⟨(some 71), [], [.c (.fn (F n_pref12_Find)), .t 68, .t 70], [], [], .call 0 false, none⟩,
 ⟨(some 12), [71], [.t 71], [], [], .mv, none⟩] [68, 69, 70, 71] [])
 (.seq
 (.seq
 (.reg [⟨(some 72), [], [.t 12], [], [], .cp, none⟩,
 ⟨(some 73), [], [.t 72, .c (.int .i64 0)], [], [], .bini .lss, none⟩,
 ⟨(some 74), [], [.t 73], [], [], .cp, none⟩,
 ⟨(some 75), [], [.t 11], [], [], .faddr 2, some (74, false)⟩,
 ⟨(some 76), [], [.t 75], [11], [], .load false 1, some (74, false)⟩,
 ⟨(some 77), [], [.t 0], [], [], .cp, some (74, false)⟩,
 ⟨(some 78), [], [.t 12], [], [], .cp, some (74, false)⟩,
 ⟨(some 79), [], [.t 77, .t 78], [], [], .iaddr none 6, some (74, false)⟩,
 ⟨(some 80), [], [.t 79], [], [], .faddr 5, some (74, false)⟩,
 ⟨(some 81), [], [.t 80], [], [], .load false 1, some (74, false)⟩,
 ⟨(some 82), [], [.t 81], [], [], .len false, some (74, false)⟩,
 ⟨(some 83), [], [.t 76, .t 82], [], [], .bini .geq, some (74, false)⟩,
 ⟨(some 84), [], [.t 74, .c (.bool true), .t 83], [], [], .pick, none⟩,
 ⟨(some 85), [], [.t 84], [], [], .cp, none⟩,
 ⟨(some 86), [], [.t 0], [], [], .cp, some (85, false)⟩,
 ⟨(some 87), [], [.t 12], [], [], .cp, some (85, false)⟩,
 ⟨(some 88), [], [.t 86, .t 87], [], [], .iaddr none 6, some (85, false)⟩,
 ⟨(some 89), [], [.t 88], [], [], .faddr 5, some (85, false)⟩,
 ⟨(some 90), [], [.t 89], [], [], .load false 1, some (85, false)⟩,
 ⟨(some 91), [], [.t 11], [], [], .faddr 2, some (85, false)⟩,
 ⟨(some 92), [], [.t 91], [11], [], .load false 1, some (85, false)⟩,
 ⟨(some 93), [], [.t 90, .t 92], [], [], .iaddr none 7, some (85, false)⟩,
 ⟨(some 94), [], [.t 93], [], [], .faddr 0, some (85, false)⟩,
 ⟨(some 95), [], [.t 94], [], [], .load false 1, some (85, false)⟩,
 ⟨(some 96), [], [.t 95, .c (.int .i64 3)], [], [], .bini .gtr, some (85, false)⟩,
 ⟨(some 97), [], [.t 85, .c (.bool true), .t 96], [], [], .pick, none⟩,
 ⟨(some 98), [], [.t 97], [], [], .cp, none⟩,
 ⟨(some 99), [], [.t 0], [], [], .cp, some (98, false)⟩,
 ⟨(some 100), [], [.t 12], [], [], .cp, some (98, false)⟩,
 ⟨(some 101), [], [.t 99, .t 100], [], [], .iaddr none 6, some (98, false)⟩,
 ⟨(some 102), [], [.t 101], [], [], .faddr 5, some (98, false)⟩,
 ⟨(some 103), [], [.t 102], [], [], .load false 1, some (98, false)⟩,
 ⟨(some 104), [], [.t 11], [], [], .faddr 2, some (98, false)⟩,
 ⟨(some 105), [], [.t 104], [11], [], .load false 1, some (98, false)⟩,
 ⟨(some 106), [], [.t 103, .t 105], [], [], .iaddr none 7, some (98, false)⟩,
 ⟨(some 107), [], [.t 106], [], [], .faddr 0, some (98, false)⟩,
 ⟨(some 108), [], [.t 107], [], [], .load false 1, some (98, false)⟩,
 ⟨(some 109), [], [.t 108, .c (.int .i64 1)], [], [], .bini .lss, some (98, false)⟩,
 ⟨(some 110), [], [.t 98, .c (.bool true), .t 109], [], [], .pick, none⟩,
 ⟨(some 111), [], [.t 110], [], [], .cp, none⟩,
 ⟨(some 112), [], [.t 1], [], [], .cp, some (111, false)⟩,
 ⟨(some 113), [], [.t 11], [], [], .faddr 0, some (111, false)⟩,
 ⟨(some 114), [], [.t 113], [11], [], .load true 2, some (111, false)⟩,
 ⟨(some 115), [], [.c (.fn (F n_pref08_Seen)), .t 112, .t 114], [], [], .call 0 false, some (111, false)⟩,
 ⟨(some 116), [], [.t 115], [], [], .not, some (111, false)⟩,
 ⟨(some 117), [], [.t 111, .c (.bool true), .t 116], [], [], .pick, none⟩,
 ⟨(some 118), [], [.t 117], [], [], .cp, none⟩,
 ⟨(some 119), [], [.t 0], [], [], .cp, some (118, false)⟩,
 ⟨(some 120), [], [.t 1], [], [], .cp, some (118, false)⟩,
 ⟨(some 121), [], [.t 11], [11], [], .load true 3, some (118, false)⟩,
 ⟨(some 122), [], [.c (.fn (F n_pref13_Covered)), .t 119, .t 120, .t 121], [], [], .call 0 false, some (118, false)⟩,
 ⟨(some 123), [], [.t 118, .c (.bool true), .t 122], [], [], .pick, none⟩] [72, 73, 74, 75, 76, 77, 78, 79, 80, 81, 82, 83, 84, 85, 86, 87, 88, 89, 90, 91, 92, 93, 94, 95, 96, 97, 98, 99, 100, 101, 102, 103, 104, 105, 106, 107, 108, 109, 110, 111, 112, 113, 114, 115, 116, 117, 118, 119, 120, 121, 122] [])
 (.cond (.t 123)
 (.exit 3)
 .skip))
 (.seq
 (.reg [⟨(some 124), [], [.t 8], [], [], .cp, none⟩,
 ⟨(some 125), [], [.t 11], [11], [], .load true 3, none⟩,
 ⟨(some 126), [], [.c (.fn (F n_plaw13_has)), .t 124, .t 125], [], [], .call 0 false, none⟩,
 ⟨(some 127), [], [.t 126], [], [], .not, none⟩] [124, 125, 126] [])
 (.cond (.t 127)
 (.seq
 (.reg [⟨(some 6), [], [.c (.bool false)], [], [], .cp, none⟩] [] [])
 .ret)
 .skip))))))
 (.reg [⟨(some 54), [], [.t 10], [], [], .cp, none⟩,
 ⟨(some 55), [], [.t 54, .c (.int .i64 1)], [], [], .bini .add, none⟩,
 ⟨(some 10), [55], [.t 55], [], [], .mv, none⟩] [11, 12, 42, 43, 44, 45, 46, 47, 48, 49, 50, 51, 52, 53, 54, 55, 56, 57, 58, 59, 60, 61, 62, 63, 64, 65, 66, 67, 68, 69, 70, 71, 72, 73, 74, 75, 76, 77, 78, 79, 80, 81, 82, 83, 84, 85, 86, 87, 88, 89, 90, 91, 92, 93, 94, 95, 96, 97, 98, 99, 100, 101, 102, 103, 104, 105, 106, 107, 108, 109, 110, 111, 112, 113, 114, 115, 116, 117, 118, 119, 120, 121, 122, 123, 124, 125, 126, 127] [11])))))))
 (.reg [⟨(some 40), [], [.t 9], [], [], .cp, none⟩,
 ⟨(some 41), [], [.t 40, .c (.int .i64 1)], [], [], .bini .add, none⟩,
 ⟨(some 9), [41], [.t 41], [], [], .mv, none⟩] [10, 11, 12, 32, 33, 34, 35, 36, 37, 38, 39, 40, 41, 42, 43, 44, 45, 46, 47, 48, 49, 50, 51, 52, 53, 54, 55, 56, 57, 58, 59, 60, 61, 62, 63, 64, 65, 66, 67, 68, 69, 70, 71, 72, 73, 74, 75, 76, 77, 78, 79, 80, 81, 82, 83, 84, 85, 86, 87, 88, 89, 90, 91, 92, 93, 94, 95, 96, 97, 98, 99, 100, 101, 102, 103, 104, 105, 106, 107, 108, 109, 110, 111, 112, 113, 114, 115, 116, 117, 118, 119, 120, 121, 122, 123, 124, 125, 126, 127] []))))))
 (.seq
 (.reg [⟨(some 128), [], [.c (.fn (F n_plaw13_awake))], [], [], .call 0 false, none⟩,
 ⟨(some 6), [128], [.t 128], [], [], .mv, none⟩] [128] [])
 .ret))))))) }

def H_plaw13_LiveUndone : Hints := [(1, { ops := [(6, { mr := [5] })], kt := [11, 12, 13, 14, 15, 16, 17, 18], kb := [] }),
 (2, { ops := [], kt := [20], kb := [] }),
 (5, { ops := [], kt := [21, 22, 23], kb := [] }),
 (6, { ops := [], kt := [21, 22, 23, 24, 25, 26, 27, 28, 29, 30, 31, 32, 33, 34, 35, 36, 37, 38, 39, 40], kb := [] }),
 (7, { ops := [(5, { mr := [5] })], kt := [27, 28, 29, 30, 31, 32], kb := [] }),
 (8, { ops := [(0, { take := true })], kt := [34, 35, 36, 37, 38, 39, 40], kb := [] }),
 (9, { ops := [], kt := [41, 42, 43], kb := [] }),
 (11, { ops := [], kt := [44, 45, 46], kb := [] }),
 (12, { ops := [], kt := [44, 45, 46, 47, 48, 49, 50, 51, 52, 53, 54, 55, 56, 57], kb := [] }),
 (13, { ops := [(6, { mr := [5] })], kt := [50, 51, 52, 53, 54, 55, 56], kb := [] }),
 (15, { ops := [], kt := [58, 59, 60, 61, 62, 63, 64, 65], kb := [] })]
def c_plaw13_LiveUndone (F : Nat → FuncId) : AFun := { nparams := 3, ntmps := 66, results := [.tmp 6], body :=
 (.seq
 (.reg [⟨(some 5), [], [.t 2], [], [5], .box, none⟩,
 ⟨(some 6), [], [.c (.bool false)], [], [], .cp, none⟩] [] [])
 (.seq
 (.seq
 (.reg [⟨(some 11), [], [.t 0], [], [], .cp, none⟩,
 ⟨(some 12), [], [.t 1], [], [], .cp, none⟩,
 ⟨(some 13), [], [.c (.fn (F n_plaw13_Good)), .t 11, .t 12], [], [], .call 0 false, none⟩,
 ⟨(some 14), [], [.t 13], [], [], .not, none⟩,
 ⟨(some 15), [], [.t 14], [], [], .cp, none⟩,
 ⟨(some 16), [], [.t 1], [], [], .cp, some (15, false)⟩,
 ⟨(some 17), [], [.t 5], [5], [], .load true 2, some (15, false)⟩,
 ⟨(some 18), [], [.c (.fn (F n_pref08_Seen)), .t 16, .t 17], [], [], .call 0 false, some (15, false)⟩,
 ⟨(some 19), [], [.t 15, .c (.bool true), .t 18], [], [], .pick, none⟩] [11, 12, 13, 14, 15, 16, 17, 18] [])
 (.cond (.t 19)
 (.seq
 (.reg [⟨(some 20), [], [.c (.fn (F n_plaw13_awake))], [], [], .call 0 false, none⟩,
 ⟨(some 6), [20], [.t 20], [], [], .mv, none⟩] [20] [])
 .ret)
 .skip))
 (.seq
 (.reg [⟨(some 7), [], [], [], [], .nils 6, none⟩] [] [])
 (.seq
 (.seq
 (.reg [⟨(some 8), [], [.c (.int .i64 0)], [], [], .cp, none⟩] [] [])
 (.block 0
 (.loop
 (.seq
 (.seq
 (.reg [⟨(some 21), [], [.t 8], [], [], .cp, none⟩,
 ⟨(some 22), [], [.t 0], [], [], .cp, none⟩,
 ⟨(some 23), [], [.t 22], [], [], .len false, none⟩,
 ⟨(some 24), [], [.t 21, .t 23], [], [], .bini .lss, none⟩] [21, 22, 23] [])
 (.cond (.t 24)
 .skip
 (.exit 0)))
 (.seq
 (.block 1
 (.seq
 (.reg [⟨(some 27), [], [.t 0], [], [], .cp, none⟩,
 ⟨(some 28), [], [.t 8], [], [], .cp, none⟩,
 ⟨(some 29), [], [.t 27, .t 28], [], [], .iaddr none 6, none⟩,
 ⟨(some 30), [], [.t 29], [], [], .faddr 0, none⟩,
 ⟨(some 31), [], [.t 30], [], [], .load true 2, none⟩,
 ⟨(some 32), [], [.t 5], [5], [], .load true 2, none⟩,
 ⟨(some 33), [], [.t 31, .t 32], [], [], .eqa [.i, .i] true, none⟩] [27, 28, 29, 30, 31, 32] [])
 (.cond (.t 33)
 (.reg [⟨(some 34), [7], [.t 7], [], [], .mv, none⟩,
 ⟨(some 35), [], [.t 0], [], [], .cp, none⟩,
 ⟨(some 36), [], [.t 8], [], [], .cp, none⟩,
 ⟨(some 37), [], [.t 35, .t 36], [], [], .iaddr none 6, none⟩,
 ⟨(some 38), [], [.t 37], [], [], .load true 6, none⟩,
 ⟨(some 39), [], [.t 38], [], [], .bslice 6 [.int .i64 0, .int .i64 0, .int .i64 0, .int .i64 0, .bool false, .sl 7 []] [(0, 6)], none⟩,
 ⟨(some 40), [34], [.t 34, .t 39], [], [], .append 6 64, none⟩,
 ⟨(some 7), [40], [.t 40], [], [], .mv, none⟩] [34, 35, 36, 37, 38, 39, 40] [])
 .skip)))
 (.reg [⟨(some 25), [], [.t 8], [], [], .cp, none⟩,
 ⟨(some 26), [], [.t 25, .c (.int .i64 1)], [], [], .bini .add, none⟩,
 ⟨(some 8), [26], [.t 26], [], [], .mv, none⟩] [21, 22, 23, 24, 25, 26, 27, 28, 29, 30, 31, 32, 33, 34, 35, 36, 37, 38, 39, 40] []))))))
 (.seq
 (.reg [⟨(some 41), [], [.t 0], [], [], .cp, none⟩,
 ⟨(some 42), [], [.t 1], [], [], .cp, none⟩,
 ⟨(some 43), [], [.c (.fn (F n_live_All)), .t 41, .t 42], [], [], .call 0 false, none⟩,
 ⟨(some 9), [43], [.t 43], [], [], .mv, none⟩] [41, 42, 43] [])
 (.seq
 (.seq
 (.reg [⟨(some 10), [], [.c (.int .i64 0)], [], [], .cp, none⟩] [] [])
 (.block 2
 (.loop
 (.seq
 (.seq
 (.reg [⟨(some 44), [], [.t 10], [], [], .cp, none⟩,
 ⟨(some 45), [], [.t 9], [], [], .cp, none⟩,
 ⟨(some 46), [], [.t 45], [], [], .len false, none⟩,
 ⟨(some 47), [], [.t 44, .t 46], [], [], .bini .lss, none⟩] [44, 45, 46] [])
 (.cond (.t 47)
 .skip
 (.exit 2)))
 (.seq
 (.block 3
 (.seq
 (.reg [⟨(some 50), [], [.t 9], [], [], .cp, none⟩,
 ⟨(some 51), [], [.t 10], [], [], .cp, none⟩,
 ⟨(some 52), [], [.t 50, .t 51], [], [], .iaddr none 11, none⟩,
 ⟨(some 53), [], [.t 52], [], [], .faddr 0, none⟩,
 ⟨(some 54), [], [.t 53], [], [], .faddr 0, none⟩,
 ⟨(some 55), [], [.t 54], [], [], .load true 2, none⟩,
 ⟨(some 56), [], [.t 5], [5], [], .load true 2, none⟩,
 ⟨(some 57), [], [.t 55, .t 56], [], [], .eqa [.i, .i] false, none⟩] [50, 51, 52, 53, 54, 55, 56] [])
 (.cond (.t 57)
 (.seq
 (.reg [⟨(some 6), [], [.c (.bool false)], [], [], .cp, none⟩] [] [])
 .ret)
 .skip)))
 (.reg [⟨(some 48), [], [.t 10], [], [], .cp, none⟩,
 ⟨(some 49), [], [.t 48, .c (.int .i64 1)], [], [], .bini .add, none⟩,
 ⟨(some 10), [49], [.t 49], [], [], .mv, none⟩] [44, 45, 46, 47, 48, 49, 50, 51, 52, 53, 54, 55, 56, 57] []))))))
 (.seq
 (.reg [⟨(some 58), [], [.t 9], [], [], .cp, none⟩,
 ⟨(some 59), [], [.t 7], [], [], .cp, none⟩,
 ⟨(some 60), [], [.t 1], [], [], .cp, none⟩,
 ⟨(some 61), [], [.c (.fn (F n_live_All)), .t 59, .t 60], [], [], .call 0 false, none⟩,
 ⟨(some 62), [], [.c (.fn (F n_live_Same)), .t 58, .t 61], [], [], .call 0 false, none⟩,
 ⟨(some 63), [], [.t 62], [], [], .cp, none⟩,
 ⟨(some 64), [], [.c (.fn (F n_plaw13_awake))], [], [], .call 0 false, some (63, true)⟩,
 ⟨(some 65), [], [.t 63, .t 64, .c (.bool false)], [], [], .pick, none⟩,
 ⟨(some 6), [65], [.t 65], [], [], .mv, none⟩] [58, 59, 60, 61, 62, 63, 64, 65] [])
 .ret))))))) }

def H_plaw13_LiveTells : Hints := [(1, { ops := [], kt := [11, 12, 13, 14, 15, 16, 17, 18], kb := [] }),
 (2, { ops := [], kt := [20], kb := [] }),
 (3, { ops := [], kt := [21, 22, 23, 24, 25, 26], kb := [] }),
 (4, { ops := [], kt := [27, 28, 29, 30, 31, 32, 33, 34, 35, 36, 37, 38, 39, 40, 41, 42, 43, 44, 45, 46, 47, 48, 49, 50, 51, 52, 53, 54, 55, 56, 57, 58, 59, 60, 61, 62, 63, 64], kb := [] })]
def c_plaw13_LiveTells (F : Nat → FuncId) : AFun := { nparams := 4, ntmps := 65, results := [.tmp 8], body :=
 (.seq
 (.reg [⟨(some 8), [], [.c (.bool false)], [], [], .cp, none⟩] [] [])
 (.seq
 (.seq
 (.reg [⟨(some 11), [], [.t 0], [], [], .cp, none⟩,
 ⟨(some 12), [], [.t 1], [], [], .cp, none⟩,
 ⟨(some 13), [], [.c (.fn (F n_plaw13_Good)), .t 11, .t 12], [], [], .call 0 false, none⟩,
 ⟨(some 14), [], [.t 13], [], [], .not, none⟩,
 ⟨(some 15), [], [.t 14], [], [], .cp, none⟩,
 ⟨(some 16), [], [.t 2], [], [], .cp, some (15, false)⟩,
 ⟨(some 17), [], [.c (.fn (F n_pref10_Short)), .t 16], [], [], .call 0 false, some (15, false)⟩,
 ⟨(some 18), [], [.t 17], [], [], .not, some (15, false)⟩,
 ⟨(some 19), [], [.t 15, .c (.bool true), .t 18], [], [], .pick, none⟩] [11, 12, 13, 14, 15, 16, 17, 18] [])
 (.cond (.t 19)
 (.seq
 (.reg [⟨(some 20), [], [.c (.fn (F n_plaw13_awake))], [], [], .call 0 false, none⟩,
 ⟨(some 8), [20], [.t 20], [], [], .mv, none⟩] [20] [])
 .ret)
 .skip))
 (.seq
 (.reg [⟨(some 21), [], [.t 0], [], [], .cp, none⟩,
 ⟨(some 22), [], [.t 1], [], [], .cp, none⟩,
 ⟨(some 23), [], [.c (.fn (F n_live_All)), .t 21, .t 22], [], [], .call 0 false, none⟩,
 ⟨(some 24), [], [.t 0], [], [], .cp, none⟩,
 ⟨(some 25), [], [.t 1], [], [], .cp, none⟩,
 ⟨(some 26), [], [.c (.fn (F n_pref13_All)), .t 24, .t 25], [], [], .call 0 false, none⟩,
 ⟨(some 9), [23], [.t 23], [], [], .mv, none⟩,
 ⟨(some 10), [26], [.t 26], [], [], .mv, none⟩] [21, 22, 23, 24, 25, 26] [])
 (.seq
 (.reg [⟨(some 27), [], [.t 9], [], [], .cp, none⟩,
 ⟨(some 28), [], [.t 10], [], [], .cp, none⟩,
 ⟨(some 29), [], [.c (.fn (F n_plaw13_Same)), .t 27, .t 28], [], [], .call 0 false, none⟩,
 ⟨(some 30), [], [.t 29], [], [], .cp, none⟩,
 ⟨(some 31), [], [.t 9], [], [], .cp, some (30, true)⟩,
 ⟨(some 32), [], [.t 2], [], [], .cp, some (30, true)⟩,
 ⟨(some 33), [], [.t 3], [], [], .cp, some (30, true)⟩,
 ⟨(some 34), [], [.c (.fn (F n_live_At)), .t 31, .t 32, .t 33], [], [], .call 0 false, some (30, true)⟩,
 ⟨(some 35), [], [.t 10], [], [], .cp, some (30, true)⟩,
 ⟨(some 36), [], [.t 2], [], [], .cp, some (30, true)⟩,
 ⟨(some 37), [], [.t 3], [], [], .cp, some (30, true)⟩,
 ⟨(some 38), [], [.c (.fn (F n_pref13_At)), .t 35, .t 36, .t 37], [], [], .call 0 false, some (30, true)⟩,
 ⟨(some 39), [], [.c (.fn (F n_plaw13_Same)), .t 34, .t 38], [], [], .call 0 false, some (30, true)⟩,
 ⟨(some 40), [], [.t 30, .t 39, .c (.bool false)], [], [], .pick, none⟩,
 ⟨(some 41), [], [.t 40], [], [], .cp, none⟩,
 ⟨(some 42), [], [.t 9], [], [], .cp, some (41, true)⟩,
 ⟨(some 43), [], [.t 2], [], [], .cp, some (41, true)⟩,
 ⟨(some 44), [], [.c (.fn (F n_live_Under)), .t 42, .t 43], [], [], .call 0 false, some (41, true)⟩,
 ⟨(some 45), [], [.t 10], [], [], .cp, some (41, true)⟩,
 ⟨(some 46), [], [.t 2], [], [], .cp, some (41, true)⟩,
 ⟨(some 47), [], [.c (.fn (F n_pref13_Under)), .t 45, .t 46], [], [], .call 0 false, some (41, true)⟩,
 ⟨(some 48), [], [.c (.fn (F n_plaw13_Same)), .t 44, .t 47], [], [], .call 0 false, some (41, true)⟩,
 ⟨(some 49), [], [.t 41, .t 48, .c (.bool false)], [], [], .pick, none⟩,
 ⟨(some 50), [], [.t 49], [], [], .cp, none⟩,
 ⟨(some 51), [], [.t 9], [], [], .cp, some (50, true)⟩,
 ⟨(some 52), [], [.c (.fn (F n_live_Refs)), .t 51], [], [], .call 0 false, some (50, true)⟩,
 ⟨(some 53), [], [.t 10], [], [], .cp, some (50, true)⟩,
 ⟨(some 54), [], [.c (.fn (F n_pref13_Refs)), .t 53], [], [], .call 0 false, some (50, true)⟩,
 ⟨(some 55), [], [.c (.fn (F n_pref13_SameRefs)), .t 52, .t 54], [], [], .call 0 false, some (50, true)⟩,
 ⟨(some 56), [], [.t 50, .t 55, .c (.bool false)], [], [], .pick, none⟩,
 ⟨(some 57), [], [.t 56], [], [], .cp, none⟩,
 ⟨(some 58), [], [.t 9], [], [], .cp, some (57, true)⟩,
 ⟨(some 59), [], [.t 9], [], [], .cp, some (57, true)⟩,
 ⟨(some 60), [], [.c (.fn (F n_live_Same)), .t 58, .t 59], [], [], .call 0 false, some (57, true)⟩,
 ⟨(some 61), [], [.t 57, .t 60, .c (.bool false)], [], [], .pick, none⟩,
 ⟨(some 62), [], [.t 61], [], [], .cp, none⟩,
 ⟨(some 63), [], [.c (.fn (F n_plaw13_awake))], [], [], .call 0 false, some (62, true)⟩,
 ⟨(some 64), [], [.t 62, .t 63, .c (.bool false)], [], [], .pick, none⟩,
 ⟨(some 8), [64], [.t 64], [], [], .mv, none⟩] [27, 28, 29, 30, 31, 32, 33, 34, 35, 36, 37, 38, 39, 40, 41, 42, 43, 44, 45, 46, 47, 48, 49, 50, 51, 52, 53, 54, 55, 56, 57, 58, 59, 60, 61, 62, 63, 64] [])
 .ret)))) }

def H_plaw13_LiveWith : Hints := [(1, { ops := [(5, { mr := [5] }), (10, { mr := [5] }), (17, { mr := [5] })], kt := [13, 14, 15, 16, 17, 18, 19, 20, 21, 22, 23, 24, 25, 26, 27, 28, 29, 30, 31, 32], kb := [] }),
 (2, { ops := [], kt := [34], kb := [] }),
 (4, { ops := [(2, { mr := [5] })], kt := [35, 36, 37, 38], kb := [] }),
 (5, { ops := [], kt := [35, 36, 37, 38, 39, 40, 41, 42, 43, 44, 45, 46, 47, 48, 49, 50], kb := [] }),
 (6, { ops := [(1, { mr := [5] })], kt := [42, 43, 44, 45, 46, 47, 48], kb := [] }),
 (7, { ops := [], kt := [50], kb := [] }),
 (8, { ops := [(4, { mr := [5] })], kt := [51, 52, 53, 54, 55, 56, 57, 58], kb := [] }),
 (11, { ops := [], kt := [59, 60, 61], kb := [] }),
 (12, { ops := [], kt := [59, 60, 61, 62, 63, 64, 65, 66, 67, 68, 69, 70, 71, 72, 73, 74, 75], kb := [] }),
 (13, { ops := [(7, { mr := [5] })], kt := [65, 66, 67, 68, 69, 70, 71, 72], kb := [] }),
 (14, { ops := [], kt := [74, 75], kb := [] }),
 (16, { ops := [], kt := [76, 77, 78], kb := [] }),
 (17, { ops := [], kt := [76, 77, 78, 79, 80, 81, 82, 83, 84, 85, 86, 87, 88, 89], kb := [] }),
 (18, { ops := [], kt := [82, 83, 84, 85, 86, 87, 88], kb := [] }),
 (20, { ops := [], kt := [90, 91, 92, 93, 94, 95, 96], kb := [] })]
def c_plaw13_LiveWith (F : Nat → FuncId) : AFun := { nparams := 3, ntmps := 97, results := [.tmp 6], body :=
 (.seq
 (.reg [⟨(some 5), [], [.t 2], [], [5], .box, none⟩,
 ⟨(some 6), [], [.c (.bool false)], [], [], .cp, none⟩] [] [])
 (.seq
 (.seq
 (.reg [⟨(some 13), [], [.t 0], [], [], .cp, none⟩,
 ⟨(some 14), [], [.t 1], [], [], .cp, none⟩,
 ⟨(some 15), [], [.c (.fn (F n_plaw13_Good)), .t 13, .t 14], [], [], .call 0 false, none⟩,
 ⟨(some 16), [], [.t 15], [], [], .not, none⟩,
 ⟨(some 17), [], [.t 16], [], [], .cp, none⟩,
 ⟨(some 18), [], [.t 5], [5], [], .load true 6, some (17, false)⟩,
 ⟨(some 19), [], [.c (.fn (F n_pref12_Short)), .t 18], [], [], .call 0 false, some (17, false)⟩,
 ⟨(some 20), [], [.t 19], [], [], .not, some (17, false)⟩,
 ⟨(some 21), [], [.t 17, .c (.bool true), .t 20], [], [], .pick, none⟩,
 ⟨(some 22), [], [.t 21], [], [], .cp, none⟩,
 ⟨(some 23), [], [.t 5], [5], [], .load true 6, some (22, false)⟩,
 ⟨(some 24), [], [.c (.fn (F n_pref12_Check)), .t 23], [], [], .call 0 false, some (22, false)⟩,
 ⟨(some 25), [], [.t 24, .c (.int .i64 0)], [], [], .bini .neq, some (22, false)⟩,
 ⟨(some 26), [], [.t 22, .c (.bool true), .t 25], [], [], .pick, none⟩,
 ⟨(some 27), [], [.t 26], [], [], .cp, none⟩,
 ⟨(some 28), [], [.t 0], [], [], .cp, some (27, false)⟩,
 ⟨(some 29), [], [.t 5], [], [], .faddr 0, some (27, false)⟩,
 ⟨(some 30), [], [.t 29], [5], [], .load true 2, some (27, false)⟩,
 ⟨(some 31), [], [.c (.fn (F n_pref12_Find)), .t 28, .t 30], [], [], .call 0 false, some (27, false)⟩,
 ⟨(some 32), [], [.t 31, .c (.int .i64 0)], [], [], .bini .geq, some (27, false)⟩,
 ⟨(some 33), [], [.t 27, .c (.bool true), .t 32], [], [], .pick, none⟩] [13, 14, 15, 16, 17, 18, 19, 20, 21, 22, 23, 24, 25, 26, 27, 28, 29, 30, 31, 32] [])
 (.cond (.t 33)
 (.seq
 (.reg [⟨(some 34), [], [.c (.fn (F n_plaw13_awake))], [], [], .call 0 false, none⟩,
 ⟨(some 6), [34], [.t 34], [], [], .mv, none⟩] [34] [])
 .ret)
 .skip))
 (.seq
 (.seq
 (.reg [⟨(some 7), [], [.c (.int .i64 0)], [], [], .cp, none⟩] [] [])
 (.block 0
 (.loop
 (.seq
 (.seq
 (.reg [⟨(some 35), [], [.t 7], [], [], .cp, none⟩,
 ⟨(some 36), [], [.t 5], [], [], .faddr 5, none⟩,
 ⟨(some 37), [], [.t 36], [5], [], .load false 1, none⟩,
 ⟨(some 38), [], [.t 37], [], [], .len false, none⟩,
 ⟨(some 39), [], [.t 35, .t 38], [], [], .bini .lss, none⟩] [35, 36, 37, 38] [])
 (.cond (.t 39)
 .skip
 (.exit 0)))
 (.seq
 (.block 1
 (.seq
 (.reg [⟨(some 42), [], [.t 5], [], [], .faddr 5, none⟩,
 ⟨(some 43), [], [.t 42], [5], [], .load false 1, none⟩,
 ⟨(some 44), [], [.t 7], [], [], .cp, none⟩,
 ⟨(some 45), [], [.t 43, .t 44], [], [], .iaddr none 7, none⟩,
 ⟨(some 46), [], [.t 45], [], [], .faddr 6, none⟩,
 ⟨(some 47), [], [.t 46], [], [], .load false 1, none⟩,
 ⟨(some 48), [], [.t 47], [], [], .len false, none⟩,
 ⟨(some 49), [], [.t 48, .c (.int .i64 0)], [], [], .bini .gtr, none⟩] [42, 43, 44, 45, 46, 47, 48] [])
 (.cond (.t 49)
 (.seq
 (.reg [⟨(some 50), [], [.c (.fn (F n_plaw13_awake))], [], [], .call 0 false, none⟩,
 ⟨(some 6), [50], [.t 50], [], [], .mv, none⟩] [50] [])
 .ret)
 .skip)))
 (.reg [⟨(some 40), [], [.t 7], [], [], .cp, none⟩,
 ⟨(some 41), [], [.t 40, .c (.int .i64 1)], [], [], .bini .add, none⟩,
 ⟨(some 7), [41], [.t 41], [], [], .mv, none⟩] [35, 36, 37, 38, 39, 40, 41, 42, 43, 44, 45, 46, 47, 48, 49, 50] []))))))
 (.seq
 (.reg [⟨(some 51), [], [.t 0], [], [], .cp, none⟩,
 ⟨(some 52), [], [.t 1], [], [], .cp, none⟩,
 ⟨(some 53), [], [.c (.fn (F n_live_All)), .t 51, .t 52], [], [], .call 0 false, none⟩,
 ⟨(some 54), [], [.t 0], [], [], .cp, none⟩,
 ⟨(some 55), [], [.t 5], [5], [], .load true 6, none⟩,
 ⟨(some 56), [], [.c (.fn (F n_live_With)), .t 54, .t 55], [], [], .call 0 false, none⟩,
 ⟨(some 57), [], [.t 1], [], [], .cp, none⟩,
 ⟨(some 58), [], [.c (.fn (F n_live_All)), .t 56, .t 57], [], [], .call 0 false, none⟩,
 ⟨(some 8), [53], [.t 53], [], [], .mv, none⟩,
 ⟨(some 9), [58], [.t 58], [], [], .mv, none⟩] [51, 52, 53, 54, 55, 56, 57, 58] [])
 (.seq
 (.reg [⟨(some 10), [], [.c (.int .i64 0)], [], [], .cp, none⟩] [] [])
 (.seq
 (.seq
 (.reg [⟨(some 11), [], [.c (.int .i64 0)], [], [], .cp, none⟩] [] [])
 (.block 2
 (.loop
 (.seq
 (.seq
 (.reg [⟨(some 59), [], [.t 11], [], [], .cp, none⟩,
 ⟨(some 60), [], [.t 9], [], [], .cp, none⟩,
 ⟨(some 61), [], [.t 60], [], [], .len false, none⟩,
 ⟨(some 62), [], [.t 59, .t 61], [], [], .bini .lss, none⟩] [59, 60, 61] [])
 (.cond (.t 62)
 .skip
 (.exit 2)))
 (.seq
 (.block 3
 (.seq
 (.reg [⟨(some 65), [], [.t 9], [], [], .cp, none⟩,
 ⟨(some 66), [], [.t 11], [], [], .cp, none⟩,
 ⟨(some 67), [], [.t 65, .t 66], [], [], .iaddr none 11, none⟩,
 ⟨(some 68), [], [.t 67], [], [], .faddr 0, none⟩,
 ⟨(some 69), [], [.t 68], [], [], .faddr 0, none⟩,
 ⟨(some 70), [], [.t 69], [], [], .load true 2, none⟩,
 ⟨(some 71), [], [.t 5], [], [], .faddr 0, none⟩,
 ⟨(some 72), [], [.t 71], [5], [], .load true 2, none⟩,
 ⟨(some 73), [], [.t 70, .t 72], [], [], .eqa [.i, .i] true, none⟩] [65, 66, 67, 68, 69, 70, 71, 72] [])
 (.cond (.t 73)
 (.reg [⟨(some 74), [], [.t 10], [], [], .cp, none⟩,
 ⟨(some 75), [], [.t 74, .c (.int .i64 1)], [], [], .bini .add, none⟩,
 ⟨(some 10), [75], [.t 75], [], [], .mv, none⟩] [74, 75] [])
 .skip)))
 (.reg [⟨(some 63), [], [.t 11], [], [], .cp, none⟩,
 ⟨(some 64), [], [.t 63, .c (.int .i64 1)], [], [], .bini .add, none⟩,
 ⟨(some 11), [64], [.t 64], [], [], .mv, none⟩] [59, 60, 61, 62, 63, 64, 65, 66, 67, 68, 69, 70, 71, 72, 73, 74, 75] []))))))
 (.seq
 (.seq
 (.reg [⟨(some 12), [], [.c (.int .i64 0)], [], [], .cp, none⟩] [] [])
 (.block 4
 (.loop
 (.seq
 (.seq
 (.reg [⟨(some 76), [], [.t 12], [], [], .cp, none⟩,
 ⟨(some 77), [], [.t 8], [], [], .cp, none⟩,
 ⟨(some 78), [], [.t 77], [], [], .len false, none⟩,
 ⟨(some 79), [], [.t 76, .t 78], [], [], .bini .lss, none⟩] [76, 77, 78] [])
 (.cond (.t 79)
 .skip
 (.exit 4)))
 (.seq
 (.block 5
 (.seq
 (.reg [⟨(some 82), [], [.t 9], [], [], .cp, none⟩,
 ⟨(some 83), [], [.t 8], [], [], .cp, none⟩,
 ⟨(some 84), [], [.t 12], [], [], .cp, none⟩,
 ⟨(some 85), [], [.t 83, .t 84], [], [], .iaddr none 11, none⟩,
 ⟨(some 86), [], [.t 85], [], [], .faddr 0, none⟩,
 ⟨(some 87), [], [.t 86], [], [], .load true 3, none⟩,
 ⟨(some 88), [], [.c (.fn (F n_plaw13_has)), .t 82, .t 87], [], [], .call 0 false, none⟩,
 ⟨(some 89), [], [.t 88], [], [], .not, none⟩] [82, 83, 84, 85, 86, 87, 88] [])
 (.cond (.t 89)
 (.seq
 (.reg [⟨(some 6), [], [.c (.bool false)], [], [], .cp, none⟩] [] [])
 .ret)
 .skip)))
 (.reg [⟨(some 80), [], [.t 12], [], [], .cp, none⟩,
 ⟨(some 81), [], [.t 80, .c (.int .i64 1)], [], [], .bini .add, none⟩,
 ⟨(some 12), [81], [.t 81], [], [], .mv, none⟩] [76, 77, 78, 79, 80, 81, 82, 83, 84, 85, 86, 87, 88, 89] []))))))
 (.seq
 (.reg [⟨(some 90), [], [.t 10], [], [], .cp, none⟩,
 ⟨(some 91), [], [.t 8], [], [], .cp, none⟩,
 ⟨(some 92), [], [.t 91], [], [], .len false, none⟩,
 ⟨(some 93), [], [.t 90, .t 92], [], [], .bini .eql, none⟩,
 ⟨(some 94), [], [.t 93], [], [], .cp, none⟩,
 ⟨(some 95), [], [.c (.fn (F n_plaw13_awake))], [], [], .call 0 false, some (94, true)⟩,
 ⟨(some 96), [], [.t 94, .t 95, .c (.bool false)], [], [], .pick, none⟩,
 ⟨(some 6), [96], [.t 96], [], [], .mv, none⟩] [90, 91, 92, 93, 94, 95, 96] [])
 .ret)))))))) }

def H_plaw13_LiveTwice : Hints := [(1, { ops := [], kt := [12, 13, 14], kb := [] }),
 (2, { ops := [], kt := [16], kb := [] }),
 (3, { ops := [(1, { mr := [5] }), (7, { mw := [7] })], kt := [17, 18, 19, 20, 21, 22], kb := [] }),
 (4, { ops := [], kt := [23], kb := [] }),
 (5, { ops := [], kt := [25], kb := [] }),
 (6, { ops := [(1, { mr := [7] })], kt := [26, 27, 28], kb := [] }),
 (7, { ops := [(1, { mr := [5] }), (7, { mw := [10] })], kt := [29, 30, 31, 32, 33, 34], kb := [] }),
 (8, { ops := [], kt := [35], kb := [] }),
 (9, { ops := [], kt := [37], kb := [] }),
 (10, { ops := [(2, { mr := [10] })], kt := [38, 39, 40, 41, 42, 43, 44, 45, 46, 47, 48, 49], kb := [] })]
def c_plaw13_LiveTwice (F : Nat → FuncId) : AFun := { nparams := 3, ntmps := 50, results := [.tmp 6], body :=
 (.seq
 (.reg [⟨(some 5), [], [.t 2], [], [5], .box, none⟩,
 ⟨(some 6), [], [.c (.bool false)], [], [], .cp, none⟩] [] [])
 (.seq
 (.seq
 (.reg [⟨(some 12), [], [.t 0], [], [], .cp, none⟩,
 ⟨(some 13), [], [.t 1], [], [], .cp, none⟩,
 ⟨(some 14), [], [.c (.fn (F n_plaw13_Good)), .t 12, .t 13], [], [], .call 0 false, none⟩,
 ⟨(some 15), [], [.t 14], [], [], .not, none⟩] [12, 13, 14] [])
 (.cond (.t 15)
 (.seq
 (.reg [⟨(some 16), [], [.c (.fn (F n_plaw13_awake))], [], [], .call 0 false, none⟩,
 ⟨(some 6), [16], [.t 16], [], [], .mv, none⟩] [16] [])
 .ret)
 .skip))
 (.seq
 (.reg [⟨(some 18), [], [.t 1], [], [], .cp, none⟩,
 ⟨(some 19), [], [.t 5], [5], [], .load true 2, none⟩,
 ⟨(some 20), [], [.c (.fn (F n_tally_Raise)), .t 18, .t 19], [], [], .call 0 false, none⟩,
 ⟨(some 17), [], [.t 20], [], [], .cp, none⟩,
 ⟨(some 21), [], [.t 17], [], [], .extract 0, none⟩,
 ⟨(some 22), [], [.t 17], [], [], .extract 1, none⟩,
 ⟨(some 7), [], [], [], [7], .alloc [.val (.int .i64 0), .val (.int .i64 0), .val (.int .i64 0)], none⟩,
 ⟨none, [21], [.t 7, .t 21], [], [7], .store true 3, none⟩,
 ⟨(some 8), [22], [.t 22], [], [], .mv, none⟩] [17, 18, 19, 20, 21, 22] [])
 (.seq
 (.seq
 (.reg [⟨(some 23), [], [.t 8], [], [], .cp, none⟩,
 ⟨(some 24), [], [.t 23, .c (.int .i64 0)], [], [], .bini .neq, none⟩] [23] [])
 (.cond (.t 24)
 (.seq
 (.reg [⟨(some 25), [], [.c (.fn (F n_plaw13_awake))], [], [], .call 0 false, none⟩,
 ⟨(some 6), [25], [.t 25], [], [], .mv, none⟩] [25] [])
 .ret)
 .skip))
 (.seq
 (.reg [⟨(some 26), [], [.t 1], [], [], .cp, none⟩,
 ⟨(some 27), [], [.t 7], [7], [], .load true 3, none⟩,
 ⟨(some 28), [], [.c (.fn (F n_tally_Put)), .t 26, .t 27], [], [], .call 0 false, none⟩,
 ⟨(some 9), [28], [.t 28], [], [], .mv, none⟩] [26, 27, 28] [])
 (.seq
 (.reg [⟨(some 30), [], [.t 9], [], [], .cp, none⟩,
 ⟨(some 31), [], [.t 5], [5], [], .load true 2, none⟩,
 ⟨(some 32), [], [.c (.fn (F n_tally_Raise)), .t 30, .t 31], [], [], .call 0 false, none⟩,
 ⟨(some 29), [], [.t 32], [], [], .cp, none⟩,
 ⟨(some 33), [], [.t 29], [], [], .extract 0, none⟩,
 ⟨(some 34), [], [.t 29], [], [], .extract 1, none⟩,
 ⟨(some 10), [], [], [], [10], .alloc [.val (.int .i64 0), .val (.int .i64 0), .val (.int .i64 0)], none⟩,
 ⟨none, [33], [.t 10, .t 33], [], [10], .store true 3, none⟩,
 ⟨(some 11), [34], [.t 34], [], [], .mv, none⟩] [29, 30, 31, 32, 33, 34] [])
 (.seq
 (.seq
 (.reg [⟨(some 35), [], [.t 11], [], [], .cp, none⟩,
 ⟨(some 36), [], [.t 35, .c (.int .i64 0)], [], [], .bini .neq, none⟩] [35] [])
 (.cond (.t 36)
 (.seq
 (.reg [⟨(some 37), [], [.c (.fn (F n_plaw13_awake))], [], [], .call 0 false, none⟩,
 ⟨(some 6), [37], [.t 37], [], [], .mv, none⟩] [37] [])
 .ret)
 .skip))
 (.seq
 (.reg [⟨(some 38), [], [.t 0], [], [], .cp, none⟩,
 ⟨(some 39), [], [.t 9], [], [], .cp, none⟩,
 ⟨(some 40), [], [.t 10], [10], [], .load true 3, none⟩,
 ⟨(some 41), [], [.c (.fn (F n_tally_Put)), .t 39, .t 40], [], [], .call 0 false, none⟩,
 ⟨(some 42), [], [.c (.fn (F n_live_All)), .t 38, .t 41], [], [], .call 0 false, none⟩,
 ⟨(some 43), [], [.t 0], [], [], .cp, none⟩,
 ⟨(some 44), [], [.t 1], [], [], .cp, none⟩,
 ⟨(some 45), [], [.c (.fn (F n_live_All)), .t 43, .t 44], [], [], .call 0 false, none⟩,
 ⟨(some 46), [], [.c (.fn (F n_live_Same)), .t 42, .t 45], [], [], .call 0 false, none⟩,
 ⟨(some 47), [], [.t 46], [], [], .cp, none⟩,
 ⟨(some 48), [], [.c (.fn (F n_plaw13_awake))], [], [], .call 0 false, some (47, true)⟩,
 ⟨(some 49), [], [.t 47, .t 48, .c (.bool false)], [], [], .pick, none⟩,
 ⟨(some 6), [49], [.t 49], [], [], .mv, none⟩] [38, 39, 40, 41, 42, 43, 44, 45, 46, 47, 48, 49] [])
 .ret)))))))) }

def H_plaw13_Good : Hints := [(1, { ops := [], kt := [5, 6, 7, 8, 9, 10], kb := [] })]
def c_plaw13_Good (F : Nat → FuncId) : AFun := { nparams := 2, ntmps := 11, results := [.tmp 4], body :=
 (.seq
 (.reg [⟨(some 4), [], [.c (.bool false)], [], [], .cp, none⟩] [] [])
 (.seq
 (.reg [⟨(some 5), [], [.t 0], [], [], .cp, none⟩,
 ⟨(some 6), [], [.c (.fn (F n_pref12_Good)), .t 5, .c (.int .i64 20)], [], [], .call 0 false, none⟩,
 ⟨(some 7), [], [.t 6], [], [], .cp, none⟩,
 ⟨(some 8), [], [.t 1], [], [], .cp, some (7, true)⟩,
 ⟨(some 9), [], [.c (.fn (F n_pref08_Good)), .t 8], [], [], .call 0 false, some (7, true)⟩,
 ⟨(some 10), [], [.t 7, .t 9, .c (.bool false)], [], [], .pick, none⟩,
 ⟨(some 4), [10], [.t 10], [], [], .mv, none⟩] [5, 6, 7, 8, 9, 10] [])
 .ret)) }

def H_plaw13_awake : Hints := [(1, { ops := [], kt := [4, 5, 6, 7, 8, 9], kb := [] }),
 (2, { ops := [], kt := [10, 11], kb := [] }),
 (3, { ops := [], kt := [12, 13, 14, 15, 16], kb := [] }),
 (4, { ops := [], kt := [17, 18, 19, 20, 21, 22, 23, 24, 25, 26, 27, 28, 29, 30, 31, 32, 33, 34, 35, 36, 37, 38, 39, 40, 41, 42], kb := [] })]
def c_plaw13_awake (F : Nat → FuncId) : AFun := { nparams := 0, ntmps := 43, results := [.tmp 0], body :=
 (.seq
 (.reg [⟨(some 0), [], [.c (.bool false)], [], [], .cp, none⟩] [] [])
 (.seq
 (.reg [⟨(some 4), [], [.c (.fn (F n_plaw13_put)), .c (.int .i64 1), .c (.int .i64 1), .c (.sl 3 [])], [], [], .call 0 false, none⟩,
 ⟨(some 5), [], [.c (.int .i64 1)], [], [], .build [.int .i64 0, .int .i64 0] [(1, 1)], none⟩,
 ⟨(some 6), [], [.t 5], [], [], .build [.int .i64 0, .int .i64 0, .int .i64 0] [(0, 2)], none⟩,
 ⟨(some 7), [], [.t 6], [], [], .bslice 3 [.int .i64 0, .int .i64 0, .int .i64 0] [(0, 3)], none⟩,
 ⟨(some 8), [], [.c (.fn (F n_plaw13_put)), .c (.int .i64 2), .c (.int .i64 2), .t 7], [], [], .call 0 false, none⟩,
 ⟨(some 9), [], [.t 4, .t 8], [], [], .bslice 6 [.int .i64 0, .int .i64 0, .int .i64 0, .int .i64 0, .bool false, .sl 7 [], .int .i64 0, .int .i64 0, .int .i64 0, .int .i64 0, .bool false, .sl 7 []] [(0, 6), (6, 6)], none⟩,
 ⟨(some 1), [9], [.t 9], [], [], .mv, none⟩] [4, 5, 6, 7, 8, 9] [])
 (.seq
 (.reg [⟨(some 10), [], [.t 1], [], [], .cp, none⟩,
 ⟨(some 11), [], [.c (.fn (F n_live_All)), .t 10, .c (.sl 3 [])], [], [], .call 0 false, none⟩,
 ⟨(some 2), [11], [.t 11], [], [], .mv, none⟩] [10, 11] [])
 (.seq
 (.reg [⟨(some 12), [], [.t 1], [], [], .cp, none⟩,
 ⟨(some 13), [], [.c (.int .i64 2)], [], [], .build [.int .i64 0, .int .i64 0] [(1, 1)], none⟩,
 ⟨(some 14), [], [.t 13, .c (.int .i64 1)], [], [], .build [.int .i64 0, .int .i64 0, .int .i64 0] [(0, 2), (2, 1)], none⟩,
 ⟨(some 15), [], [.t 14], [], [], .bslice 3 [.int .i64 0, .int .i64 0, .int .i64 0] [(0, 3)], none⟩,
 ⟨(some 16), [], [.c (.fn (F n_live_All)), .t 12, .t 15], [], [], .call 0 false, none⟩,
 ⟨(some 3), [16], [.t 16], [], [], .mv, none⟩] [12, 13, 14, 15, 16] [])
 (.seq
 (.reg [⟨(some 17), [], [.t 2], [], [], .cp, none⟩,
 ⟨(some 18), [], [.t 17], [], [], .len false, none⟩,
 ⟨(some 19), [], [.t 18, .c (.int .i64 1)], [], [], .bini .eql, none⟩,
 ⟨(some 20), [], [.t 19], [], [], .cp, none⟩,
 ⟨(some 21), [], [.t 2], [], [], .cp, some (20, true)⟩,
 ⟨(some 22), [], [.t 21, .c (.int .i64 0)], [], [], .iaddr none 11, some (20, true)⟩,
 ⟨(some 23), [], [.t 22], [], [], .faddr 0, some (20, true)⟩,
 ⟨(some 24), [], [.t 23], [], [], .faddr 0, some (20, true)⟩,
 ⟨(some 25), [], [.t 24], [], [], .faddr 1, some (20, true)⟩,
 ⟨(some 26), [], [.t 25], [], [], .load false 1, some (20, true)⟩,
 ⟨(some 27), [], [.t 26, .c (.int .i64 2)], [], [], .bini .eql, some (20, true)⟩,
 ⟨(some 28), [], [.t 20, .t 27, .c (.bool false)], [], [], .pick, none⟩,
 ⟨(some 29), [], [.t 28], [], [], .cp, none⟩,
 ⟨(some 30), [], [.t 3], [], [], .cp, some (29, true)⟩,
 ⟨(some 31), [], [.t 30], [], [], .len false, some (29, true)⟩,
 ⟨(some 32), [], [.t 31, .c (.int .i64 1)], [], [], .bini .eql, some (29, true)⟩,
 ⟨(some 33), [], [.t 29, .t 32, .c (.bool false)], [], [], .pick, none⟩,
 ⟨(some 34), [], [.t 33], [], [], .cp, none⟩,
 ⟨(some 35), [], [.t 3], [], [], .cp, some (34, true)⟩,
 ⟨(some 36), [], [.t 35, .c (.int .i64 0)], [], [], .iaddr none 11, some (34, true)⟩,
 ⟨(some 37), [], [.t 36], [], [], .faddr 0, some (34, true)⟩,
 ⟨(some 38), [], [.t 37], [], [], .faddr 0, some (34, true)⟩,
 ⟨(some 39), [], [.t 38], [], [], .faddr 1, some (34, true)⟩,
 ⟨(some 40), [], [.t 39], [], [], .load false 1, some (34, true)⟩,
 ⟨(some 41), [], [.t 40, .c (.int .i64 1)], [], [], .bini .eql, some (34, true)⟩,
 ⟨(some 42), [], [.t 34, .t 41, .c (.bool false)], [], [], .pick, none⟩,
 ⟨(some 0), [42], [.t 42], [], [], .mv, none⟩] [17, 18, 19, 20, 21, 22, 23, 24, 25, 26, 27, 28, 29, 30, 31, 32, 33, 34, 35, 36, 37, 38, 39, 40, 41, 42] [])
 .ret))))) }

def H_live_All : Hints := [(0, { ops := [(0, { x := 4 })], kt := [], kb := [] }),
 (1, { ops := [(2, { mw := [14], new := true })], kt := [12, 13, 14], kb := [] }),
 (5, { ops := [(3, { mw := [8] })], kt := [19, 20], kb := [] }),
 (6, { ops := [(2, { mr := [8] })], kt := [21, 22, 23, 24], kb := [] }),
 (7, { ops := [(1, { mr := [8] })], kt := [26], kb := [] }),
 (9, { ops := [(5, { mw := [10] })], kt := [31, 32, 33], kb := [] }),
 (10, { ops := [(1, { mr := [8] }), (5, { mw := [11] })], kt := [34, 35, 36, 37], kb := [] }),
 (11, { ops := [(1, { mr := [10] }), (5, { mr := [10] }), (10, { mr := [10] }), (15, { mr := [11] }), (16, { mr := [14] })], kt := [38, 39, 40, 41, 42, 43, 44, 45, 46, 47, 48, 49, 50, 51, 52, 53, 54, 55], kb := [] }),
 (12, { ops := [(0, { take := true }), (1, { mr := [11] }), (2, { mr := [10] }), (4, { mr := [8] })], kt := [57, 58, 59, 60, 61, 62, 63, 64], kb := [] }),
 (13, { ops := [], kt := [9, 10, 11, 30, 31, 32, 33, 34, 35, 36, 37, 38, 39, 40, 41, 42, 43, 44, 45, 46, 47, 48, 49, 50, 51, 52, 53, 54, 55, 56, 57, 58, 59, 60, 61, 62, 63, 64, 65], kb := [10, 11] }),
 (14, { ops := [], kt := [8, 9, 10, 11, 18, 19, 20, 21, 22, 23, 24, 25, 26, 27, 28, 29, 30, 31, 32, 33, 34, 35, 36, 37, 38, 39, 40, 41, 42, 43, 44, 45, 46, 47, 48, 49, 50, 51, 52, 53, 54, 55, 56, 57, 58, 59, 60, 61, 62, 63, 64, 65, 66], kb := [8] }),
 (15, { ops := [], kt := [67], kb := [] })]
def c_live_All (F : Nat → FuncId) : AFun := { nparams := 2, ntmps := 68, results := [.tmp 4], body :=
 (.seq
 (.reg [⟨(some 4), [], [.c (.sl 11 [])], [], [], .cp, none⟩] [] [])
 (.seq
 (.reg [⟨(some 12), [], [.t 0], [], [], .cp, none⟩,
 ⟨(some 13), [], [.t 1], [], [], .cp, none⟩,
 ⟨(some 14), [], [.c (.fn (F n_live_covered)), .t 12, .t 13], [], [14], .call 0 true, none⟩,
 ⟨(some 5), [14], [.t 14], [], [], .mv, none⟩] [12, 13, 14] [])
 (.seq
 (.reg [⟨(some 6), [], [], [], [], .nils 11, none⟩] [] [])
 (.seq
 (.seq
 (.reg [⟨(some 15), [], [.t 0], [], [], .cp, none⟩,
 ⟨(some 16), [], [.t 15], [], [], .len false, none⟩,
 ⟨(some 17), [], [.c (.int .i64 0)], [], [], .cp, none⟩] [] [])
 (.block 0
 (.loop
 (.seq
 (.reg [⟨(some 18), [], [.t 17, .t 16], [], [], .bini .lss, none⟩] [] [])
 (.seq
 (.cond (.t 18)
 .skip
 (.exit 0))
 (.seq
 (.block 1
 (.seq
 (.reg [⟨(some 19), [], [.t 15, .t 17], [], [], .iaddr none 6, none⟩,
 ⟨(some 20), [], [.t 19], [], [], .load true 6, none⟩,
 ⟨(some 8), [], [], [], [8], .alloc [.val (.int .i64 0), .val (.int .i64 0), .val (.int .i64 0), .val (.int .i64 0), .val (.bool false), .own 7 []], none⟩,
 ⟨none, [20], [.t 8, .t 20], [], [8], .store true 6, none⟩] [19, 20] [])
 (.seq
 (.seq
 (.reg [⟨(some 21), [], [.t 1], [], [], .cp, none⟩,
 ⟨(some 22), [], [.t 8], [], [], .faddr 0, none⟩,
 ⟨(some 23), [], [.t 22], [8], [], .load true 2, none⟩,
 ⟨(some 24), [], [.c (.fn (F n_tally_Seen)), .t 21, .t 23], [], [], .call 0 false, none⟩,
 ⟨(some 25), [], [.t 24], [], [], .not, none⟩] [21, 22, 23, 24] [])
 (.cond (.t 25)
 (.exit 1)
 .skip))
 (.seq
 (.reg [⟨(some 26), [], [.t 8], [], [], .faddr 5, none⟩,
 ⟨(some 27), [], [.t 26], [8], [], .load false 1, none⟩,
 ⟨(some 28), [], [.t 27], [], [], .len false, none⟩,
 ⟨(some 29), [], [.c (.int .i64 0)], [], [], .cp, none⟩] [26] [])
 (.block 2
 (.loop
 (.seq
 (.reg [⟨(some 30), [], [.t 29, .t 28], [], [], .bini .lss, none⟩] [] [])
 (.seq
 (.cond (.t 30)
 .skip
 (.exit 2))
 (.seq
 (.block 3
 (.seq
 (.reg [⟨(some 31), [], [.t 29], [], [], .cp, none⟩,
 ⟨(some 32), [], [.t 27, .t 29], [], [], .iaddr none 7, none⟩,
 ⟨(some 33), [], [.t 32], [], [], .load true 7, none⟩,
 ⟨(some 10), [], [], [], [10], .alloc [.val (.int .i64 0), .own 1 [], .val (.int .i64 0), .val (.int .i64 0), .val (.str []), .val (.int .i64 0), .own 3 []], none⟩,
 ⟨(some 9), [31], [.t 31], [], [], .mv, none⟩,
 ⟨none, [33], [.t 10, .t 33], [], [10], .store true 7, none⟩] [31, 32, 33] [])
 (.seq
 (.reg [⟨(some 34), [], [.t 8], [], [], .faddr 0, none⟩,
 ⟨(some 35), [], [.t 34], [8], [], .load true 2, none⟩,
 ⟨(some 36), [], [.t 9], [], [], .cp, none⟩,
 ⟨(some 37), [], [.t 35, .t 36], [], [], .build [.int .i64 0, .int .i64 0, .int .i64 0] [(0, 2), (2, 1)], none⟩,
 ⟨(some 11), [], [], [], [11], .alloc [.val (.int .i64 0), .val (.int .i64 0), .val (.int .i64 0)], none⟩,
 ⟨none, [37], [.t 11, .t 37], [], [11], .store true 3, none⟩] [34, 35, 36, 37] [])
 (.seq
 (.reg [⟨(some 38), [], [.t 10], [], [], .faddr 0, none⟩,
 ⟨(some 39), [], [.t 38], [10], [], .load false 1, none⟩,
 ⟨(some 40), [], [.t 39, .c (.int .i64 1)], [], [], .bini .eql, none⟩,
 ⟨(some 41), [], [.t 40], [], [], .cp, none⟩,
 ⟨(some 42), [], [.t 10], [], [], .faddr 0, some (41, false)⟩,
 ⟨(some 43), [], [.t 42], [10], [], .load false 1, some (41, false)⟩,
 ⟨(some 44), [], [.t 43, .c (.int .i64 2)], [], [], .bini .eql, some (41, false)⟩,
 ⟨(some 45), [], [.t 41, .c (.bool true), .t 44], [], [], .pick, none⟩,
 ⟨(some 46), [], [.t 45], [], [], .cp, none⟩,
 ⟨(some 47), [], [.t 10], [], [], .faddr 0, some (46, false)⟩,
 ⟨(some 48), [], [.t 47], [10], [], .load false 1, some (46, false)⟩,
 ⟨(some 49), [], [.t 48, .c (.int .i64 3)], [], [], .bini .eql, some (46, false)⟩,
 ⟨(some 50), [], [.t 46, .c (.bool true), .t 49], [], [], .pick, none⟩,
 ⟨(some 51), [], [.t 50], [], [], .cp, none⟩,
 ⟨(some 52), [], [.t 5], [], [], .cp, some (51, true)⟩,
 ⟨(some 53), [], [.t 11], [11], [], .load true 3, some (51, true)⟩,
 ⟨(some 54), [], [.t 52, .t 53], [14], [], .lookup [.i, .i, .i] (.bool false) false, some (51, true)⟩,
 ⟨(some 55), [], [.t 54], [], [], .not, some (51, true)⟩,
 ⟨(some 56), [], [.t 51, .t 55, .c (.bool false)], [], [], .pick, none⟩] [38, 39, 40, 41, 42, 43, 44, 45, 46, 47, 48, 49, 50, 51, 52, 53, 54, 55] [])
 (.cond (.t 56)
 (.reg [⟨(some 57), [6], [.t 6], [], [], .mv, none⟩,
 ⟨(some 58), [], [.t 11], [11], [], .load true 3, none⟩,
 ⟨(some 59), [], [.t 10], [10], [], .load true 7, none⟩,
 ⟨(some 60), [], [.t 8], [], [], .faddr 3, none⟩,
 ⟨(some 61), [], [.t 60], [8], [], .load false 1, none⟩,
 ⟨(some 62), [], [.t 58, .t 59, .t 61], [], [], .build [.int .i64 0, .int .i64 0, .int .i64 0, .int .i64 0, .sl 1 [], .int .i64 0, .int .i64 0, .str [], .int .i64 0, .sl 3 [], .int .i64 0] [(0, 3), (3, 7), (10, 1)], none⟩,
 ⟨(some 63), [], [.t 62], [], [], .bslice 11 [.int .i64 0, .int .i64 0, .int .i64 0, .int .i64 0, .sl 1 [], .int .i64 0, .int .i64 0, .str [], .int .i64 0, .sl 3 [], .int .i64 0] [(0, 11)], none⟩,
 ⟨(some 64), [57], [.t 57, .t 63], [], [], .append 11 128, none⟩,
 ⟨(some 6), [64], [.t 64], [], [], .mv, none⟩] [57, 58, 59, 60, 61, 62, 63, 64] [])
 .skip)))))
 (.reg [⟨(some 65), [], [.t 29, .c (.int .i64 1)], [], [], .bini .add, none⟩,
 ⟨(some 29), [], [.t 65], [], [], .cp, none⟩] [9, 10, 11, 30, 31, 32, 33, 34, 35, 36, 37, 38, 39, 40, 41, 42, 43, 44, 45, 46, 47, 48, 49, 50, 51, 52, 53, 54, 55, 56, 57, 58, 59, 60, 61, 62, 63, 64, 65] [10, 11]))))))))))
 (.reg [⟨(some 66), [], [.t 17, .c (.int .i64 1)], [], [], .bini .add, none⟩,
 ⟨(some 17), [], [.t 66], [], [], .cp, none⟩] [8, 9, 10, 11, 18, 19, 20, 21, 22, 23, 24, 25, 26, 27, 28, 29, 30, 31, 32, 33, 34, 35, 36, 37, 38, 39, 40, 41, 42, 43, 44, 45, 46, 47, 48, 49, 50, 51, 52, 53, 54, 55, 56, 57, 58, 59, 60, 61, 62, 63, 64, 65, 66] [8])))))))
 (.seq
 (.reg [⟨(some 67), [], [.t 6], [], [], .cp, none⟩,
 ⟨(some 4), [67], [.t 67], [], [], .mv, none⟩] [67] [])
 .ret))))) }

def H_pref13_Covered : Hints := [(2, { ops := [], kt := [9, 10, 11], kb := [] }),
 (3, { ops := [], kt := [8, 9, 10, 11, 12, 13, 14, 15, 16, 17, 18, 19, 20, 21, 22, 23, 24, 25, 26, 27, 28, 29, 30, 31, 32, 33, 34, 35, 36, 37, 38, 39, 40, 41, 42, 43], kb := [] }),
 (5, { ops := [], kt := [15, 16, 17, 18, 19, 20, 21], kb := [] }),
 (6, { ops := [], kt := [15, 16, 17, 18, 19, 20, 21, 22, 23, 24, 25, 26, 27, 28, 29, 30, 31, 32, 33, 34, 35, 36, 37, 38, 39, 40, 41, 42, 43], kb := [] }),
 (7, { ops := [(8, { mr := [5] })], kt := [25, 26, 27, 28, 29, 30, 31, 32, 33, 34, 35, 36, 37, 38, 39, 40, 41, 42], kb := [] })]
def c_pref13_Covered (F : Nat → FuncId) : AFun := { nparams := 3, ntmps := 44, results := [.tmp 6], body :=
 (.seq
 (.reg [⟨(some 5), [], [.t 2], [], [5], .box, none⟩,
 ⟨(some 6), [], [.c (.bool false)], [], [], .cp, none⟩] [] [])
 (.seq
 (.seq
 (.reg [⟨(some 7), [], [.c (.int .i64 0)], [], [], .cp, none⟩] [] [])
 (.block 0
 (.loop
 (.seq
 (.seq
 (.reg [⟨(some 9), [], [.t 7], [], [], .cp, none⟩,
 ⟨(some 10), [], [.t 0], [], [], .cp, none⟩,
 ⟨(some 11), [], [.t 10], [], [], .len false, none⟩,
 ⟨(some 12), [], [.t 9, .t 11], [], [], .bini .lss, none⟩] [9, 10, 11] [])
 (.cond (.t 12)
 .skip
 (.exit 0)))
 (.seq
 (.block 1
 (.seq
 (.reg [⟨(some 8), [], [.c (.int .i64 0)], [], [], .cp, none⟩] [] [])
 (.block 2
 (.loop
 (.seq
 (.seq
 (.reg [⟨(some 15), [], [.t 8], [], [], .cp, none⟩,
 ⟨(some 16), [], [.t 0], [], [], .cp, none⟩,
 ⟨(some 17), [], [.t 7], [], [], .cp, none⟩,
 ⟨(some 18), [], [.t 16, .t 17], [], [], .iaddr none 6, none⟩,
 ⟨(some 19), [], [.t 18], [], [], .faddr 5, none⟩,
 ⟨(some 20), [], [.t 19], [], [], .load false 1, none⟩,
 ⟨(some 21), [], [.t 20], [], [], .len false, none⟩,
 ⟨(some 22), [], [.t 15, .t 21], [], [], .bini .lss, none⟩] [15, 16, 17, 18, 19, 20, 21] [])
 (.cond (.t 22)
 .skip
 (.exit 2)))
 (.seq
 (.block 3
 (.seq
 (.reg [⟨(some 25), [], [.t 0], [], [], .cp, none⟩,
 ⟨(some 26), [], [.t 7], [], [], .cp, none⟩,
 ⟨(some 27), [], [.t 25, .t 26], [], [], .iaddr none 6, none⟩,
 ⟨(some 28), [], [.t 27], [], [], .faddr 5, none⟩,
 ⟨(some 29), [], [.t 28], [], [], .load false 1, none⟩,
 ⟨(some 30), [], [.t 8], [], [], .cp, none⟩,
 ⟨(some 31), [], [.t 29, .t 30], [], [], .iaddr none 7, none⟩,
 ⟨(some 32), [], [.t 31], [], [], .load true 7, none⟩,
 ⟨(some 33), [], [.t 5], [5], [], .load true 3, none⟩,
 ⟨(some 34), [], [.c (.fn (F n_pref11_Covers)), .t 32, .t 33], [], [], .call 0 false, none⟩,
 ⟨(some 35), [], [.t 34], [], [], .cp, none⟩,
 ⟨(some 36), [], [.t 1], [], [], .cp, some (35, true)⟩,
 ⟨(some 37), [], [.t 0], [], [], .cp, some (35, true)⟩,
 ⟨(some 38), [], [.t 7], [], [], .cp, some (35, true)⟩,
 ⟨(some 39), [], [.t 37, .t 38], [], [], .iaddr none 6, some (35, true)⟩,
 ⟨(some 40), [], [.t 39], [], [], .faddr 0, some (35, true)⟩,
 ⟨(some 41), [], [.t 40], [], [], .load true 2, some (35, true)⟩,
 ⟨(some 42), [], [.c (.fn (F n_pref08_Seen)), .t 36, .t 41], [], [], .call 0 false, some (35, true)⟩,
 ⟨(some 43), [], [.t 35, .t 42, .c (.bool false)], [], [], .pick, none⟩] [25, 26, 27, 28, 29, 30, 31, 32, 33, 34, 35, 36, 37, 38, 39, 40, 41, 42] [])
 (.cond (.t 43)
 (.seq
 (.reg [⟨(some 6), [], [.c (.bool true)], [], [], .cp, none⟩] [] [])
 .ret)
 .skip)))
 (.reg [⟨(some 23), [], [.t 8], [], [], .cp, none⟩,
 ⟨(some 24), [], [.t 23, .c (.int .i64 1)], [], [], .bini .add, none⟩,
 ⟨(some 8), [24], [.t 24], [], [], .mv, none⟩] [15, 16, 17, 18, 19, 20, 21, 22, 23, 24, 25, 26, 27, 28, 29, 30, 31, 32, 33, 34, 35, 36, 37, 38, 39, 40, 41, 42, 43] [])))))))
 (.reg [⟨(some 13), [], [.t 7], [], [], .cp, none⟩,
 ⟨(some 14), [], [.t 13, .c (.int .i64 1)], [], [], .bini .add, none⟩,
 ⟨(some 7), [14], [.t 14], [], [], .mv, none⟩] [8, 9, 10, 11, 12, 13, 14, 15, 16, 17, 18, 19, 20, 21, 22, 23, 24, 25, 26, 27, 28, 29, 30, 31, 32, 33, 34, 35, 36, 37, 38, 39, 40, 41, 42, 43] []))))))
 (.seq
 (.reg [⟨(some 6), [], [.c (.bool false)], [], [], .cp, none⟩] [] [])
 .ret))) }

def H_plaw13_has : Hints := [(2, { ops := [], kt := [6, 7, 8], kb := [] }),
 (3, { ops := [], kt := [6, 7, 8, 9, 10, 11, 12, 13, 14, 15, 16, 17, 18], kb := [] }),
 (4, { ops := [(5, { mr := [3] })], kt := [12, 13, 14, 15, 16, 17], kb := [] })]
def c_plaw13_has (F : Nat → FuncId) : AFun := { nparams := 2, ntmps := 19, results := [.tmp 4], body :=
 (.seq
 (.reg [⟨(some 3), [], [.t 1], [], [3], .box, none⟩,
 ⟨(some 4), [], [.c (.bool false)], [], [], .cp, none⟩] [] [])
 (.seq
 (.seq
 (.reg [⟨(some 5), [], [.c (.int .i64 0)], [], [], .cp, none⟩] [] [])
 (.block 0
 (.loop
 (.seq
 (.seq
 (.reg [⟨(some 6), [], [.t 5], [], [], .cp, none⟩,
 ⟨(some 7), [], [.t 0], [], [], .cp, none⟩,
 ⟨(some 8), [], [.t 7], [], [], .len false, none⟩,
 ⟨(some 9), [], [.t 6, .t 8], [], [], .bini .lss, none⟩] [6, 7, 8] [])
 (.cond (.t 9)
 .skip
 (.exit 0)))
 (.seq
 (.block 1
 (.seq
 (.reg [⟨(some 12), [], [.t 0], [], [], .cp, none⟩,
 ⟨(some 13), [], [.t 5], [], [], .cp, none⟩,
 ⟨(some 14), [], [.t 12, .t 13], [], [], .iaddr none 11, none⟩,
 ⟨(some 15), [], [.t 14], [], [], .faddr 0, none⟩,
 ⟨(some 16), [], [.t 15], [], [], .load true 3, none⟩,
 ⟨(some 17), [], [.t 3], [3], [], .load true 3, none⟩,
 ⟨(some 18), [], [.t 16, .t 17], [], [], .eqa [.i, .i, .i] false, none⟩] [12, 13, 14, 15, 16, 17] [])
 (.cond (.t 18)
 (.seq
 (.reg [⟨(some 4), [], [.c (.bool true)], [], [], .cp, none⟩] [] [])
 .ret)
 .skip)))
 (.reg [⟨(some 10), [], [.t 5], [], [], .cp, none⟩,
 ⟨(some 11), [], [.t 10, .c (.int .i64 1)], [], [], .bini .add, none⟩,
 ⟨(some 5), [11], [.t 11], [], [], .mv, none⟩] [6, 7, 8, 9, 10, 11, 12, 13, 14, 15, 16, 17, 18] []))))))
 (.seq
 (.reg [⟨(some 4), [], [.c (.bool false)], [], [], .cp, none⟩] [] [])
 .ret))) }

def H_live_Same : Hints := [(1, { ops := [], kt := [5, 6, 7], kb := [] })]
def c_live_Same (F : Nat → FuncId) : AFun := { nparams := 2, ntmps := 8, results := [.tmp 4], body :=
 (.seq
 (.reg [⟨(some 4), [], [.c (.bool false)], [], [], .cp, none⟩] [] [])
 (.seq
 (.reg [⟨(some 5), [], [.t 0], [], [], .cp, none⟩,
 ⟨(some 6), [], [.t 1], [], [], .cp, none⟩,
 ⟨(some 7), [], [.c (.fn (F n_slices_EqualFunc_live_Item_live_Item_live_Item_live_Item)), .t 5, .t 6, .c (.fn (F n_live_Same_1))], [], [], .call 0 false, none⟩,
 ⟨(some 4), [7], [.t 7], [], [], .mv, none⟩] [5, 6, 7] [])
 .ret)) }

def H_pref13_All : Hints := [(0, { ops := [(0, { x := 4 })], kt := [], kb := [] }),
 (3, { ops := [], kt := [10, 11, 12], kb := [] }),
 (4, { ops := [], kt := [7, 8, 9, 10, 11, 12, 13, 14, 15, 16, 17, 18, 19, 20, 21, 22, 23, 24, 25, 26, 27, 28, 29, 30, 31, 32, 33, 34, 35, 36, 37, 38, 39, 40, 41, 42, 43, 44, 45, 46, 47, 48, 49, 50, 51, 52, 53, 54, 55, 56, 57, 58, 59, 60, 61, 62, 63, 64, 65, 66, 67, 68, 69, 70, 71, 72, 73, 74, 75], kb := [] }),
 (6, { ops := [], kt := [16, 17, 18, 19, 20, 21, 22], kb := [] }),
 (7, { ops := [], kt := [8, 9, 16, 17, 18, 19, 20, 21, 22, 23, 24, 25, 26, 27, 28, 29, 30, 31, 32, 33, 34, 35, 36, 37, 38, 39, 40, 41, 42, 43, 44, 45, 46, 47, 48, 49, 50, 51, 52, 53, 54, 55, 56, 57, 58, 59, 60, 61, 62, 63, 64, 65, 66, 67, 68, 69, 70, 71, 72, 73, 74, 75], kb := [8, 9] }),
 (8, { ops := [(9, { mw := [8] })], kt := [26, 27, 28, 29, 30, 31, 32, 33], kb := [] }),
 (9, { ops := [(8, { mw := [9] })], kt := [34, 35, 36, 37, 38, 39, 40], kb := [] }),
 (10, { ops := [(1, { mr := [8] }), (5, { mr := [8] }), (20, { mr := [9] })], kt := [41, 42, 43, 44, 45, 46, 47, 48, 49, 50, 51, 52, 53, 54, 55, 56, 57, 58, 59, 60, 61, 62, 63], kb := [] }),
 (11, { ops := [(0, { take := true }), (1, { mr := [9] }), (2, { mr := [8] })], kt := [65, 66, 67, 68, 69, 70, 71, 72, 73, 74, 75], kb := [] }),
 (12, { ops := [], kt := [76], kb := [] })]
def c_pref13_All (F : Nat → FuncId) : AFun := { nparams := 2, ntmps := 77, results := [.tmp 4], body :=
 (.seq
 (.reg [⟨(some 4), [], [.c (.sl 11 [])], [], [], .cp, none⟩] [] [])
 (.seq
 (.reg [⟨(some 5), [], [], [], [], .nils 11, none⟩] [] [])
 (.seq
 (.seq
 (.reg [⟨(some 6), [], [.c (.int .i64 0)], [], [], .cp, none⟩] [] [])
 (.block 0
 (.loop
 (.seq
 (.seq
 (.reg [⟨(some 10), [], [.t 6], [], [], .cp, none⟩,
 ⟨(some 11), [], [.t 0], [], [], .cp, none⟩,
 ⟨(some 12), [], [.t 11], [], [], .len false, none⟩,
 ⟨(some 13), [], [.t 10, .t 12], [], [], .bini .lss, none⟩] [10, 11, 12] [])
 (.cond (.t 13)
 .skip
 (.exit 0)))
 (.seq
 (.block 1
 (.seq
 (.reg [⟨(some 7), [], [.c (.int .i64 0)], [], [], .cp, none⟩] [] [])
 (.block 2
 (.loop
 (.seq
 (.seq
 (.reg [⟨(some 16), [], [.t 7], [], [], .cp, none⟩,
 ⟨(some 17), [], [.t 0], [], [], .cp, none⟩,
 ⟨(some 18), [], [.t 6], [], [], .cp, none⟩,
 ⟨(some 19), [], [.t 17, .t 18], [], [], .iaddr none 6, none⟩,
 ⟨(some 20), [], [.t 19], [], [], .faddr 5, none⟩,
 ⟨(some 21), [], [.t 20], [], [], .load false 1, none⟩,
 ⟨(some 22), [], [.t 21], [], [], .len false, none⟩,
 ⟨(some 23), [], [.t 16, .t 22], [], [], .bini .lss, none⟩] [16, 17, 18, 19, 20, 21, 22] [])
 (.cond (.t 23)
 .skip
 (.exit 2)))
 (.seq
 (.block 3
 (.seq
 (.reg [⟨(some 26), [], [.t 0], [], [], .cp, none⟩,
 ⟨(some 27), [], [.t 6], [], [], .cp, none⟩,
 ⟨(some 28), [], [.t 26, .t 27], [], [], .iaddr none 6, none⟩,
 ⟨(some 29), [], [.t 28], [], [], .faddr 5, none⟩,
 ⟨(some 30), [], [.t 29], [], [], .load false 1, none⟩,
 ⟨(some 31), [], [.t 7], [], [], .cp, none⟩,
 ⟨(some 32), [], [.t 30, .t 31], [], [], .iaddr none 7, none⟩,
 ⟨(some 33), [], [.t 32], [], [], .load true 7, none⟩,
 ⟨(some 8), [], [], [], [8], .alloc [.val (.int .i64 0), .own 1 [], .val (.int .i64 0), .val (.int .i64 0), .val (.str []), .val (.int .i64 0), .own 3 []], none⟩,
 ⟨none, [33], [.t 8, .t 33], [], [8], .store true 7, none⟩] [26, 27, 28, 29, 30, 31, 32, 33] [])
 (.seq
 (.reg [⟨(some 34), [], [.t 0], [], [], .cp, none⟩,
 ⟨(some 35), [], [.t 6], [], [], .cp, none⟩,
 ⟨(some 36), [], [.t 34, .t 35], [], [], .iaddr none 6, none⟩,
 ⟨(some 37), [], [.t 36], [], [], .faddr 0, none⟩,
 ⟨(some 38), [], [.t 37], [], [], .load true 2, none⟩,
 ⟨(some 39), [], [.t 7], [], [], .cp, none⟩,
 ⟨(some 40), [], [.t 38, .t 39], [], [], .build [.int .i64 0, .int .i64 0, .int .i64 0] [(0, 2), (2, 1)], none⟩,
 ⟨(some 9), [], [], [], [9], .alloc [.val (.int .i64 0), .val (.int .i64 0), .val (.int .i64 0)], none⟩,
 ⟨none, [40], [.t 9, .t 40], [], [9], .store true 3, none⟩] [34, 35, 36, 37, 38, 39, 40] [])
 (.seq
 (.reg [⟨(some 41), [], [.t 8], [], [], .faddr 0, none⟩,
 ⟨(some 42), [], [.t 41], [8], [], .load false 1, none⟩,
 ⟨(some 43), [], [.t 42, .c (.int .i64 1)], [], [], .bini .geq, none⟩,
 ⟨(some 44), [], [.t 43], [], [], .cp, none⟩,
 ⟨(some 45), [], [.t 8], [], [], .faddr 0, some (44, true)⟩,
 ⟨(some 46), [], [.t 45], [8], [], .load false 1, some (44, true)⟩,
 ⟨(some 47), [], [.t 46, .c (.int .i64 3)], [], [], .bini .leq, some (44, true)⟩,
 ⟨(some 48), [], [.t 44, .t 47, .c (.bool false)], [], [], .pick, none⟩,
 ⟨(some 49), [], [.t 48], [], [], .cp, none⟩,
 ⟨(some 50), [], [.t 1], [], [], .cp, some (49, true)⟩,
 ⟨(some 51), [], [.t 0], [], [], .cp, some (49, true)⟩,
 ⟨(some 52), [], [.t 6], [], [], .cp, some (49, true)⟩,
 ⟨(some 53), [], [.t 51, .t 52], [], [], .iaddr none 6, some (49, true)⟩,
 ⟨(some 54), [], [.t 53], [], [], .faddr 0, some (49, true)⟩,
 ⟨(some 55), [], [.t 54], [], [], .load true 2, some (49, true)⟩,
 ⟨(some 56), [], [.c (.fn (F n_pref08_Seen)), .t 50, .t 55], [], [], .call 0 false, some (49, true)⟩,
 ⟨(some 57), [], [.t 49, .t 56, .c (.bool false)], [], [], .pick, none⟩,
 ⟨(some 58), [], [.t 57], [], [], .cp, none⟩,
 ⟨(some 59), [], [.t 0], [], [], .cp, some (58, true)⟩,
 ⟨(some 60), [], [.t 1], [], [], .cp, some (58, true)⟩,
 ⟨(some 61), [], [.t 9], [9], [], .load true 3, some (58, true)⟩,
 ⟨(some 62), [], [.c (.fn (F n_pref13_Covered)), .t 59, .t 60, .t 61], [], [], .call 0 false, some (58, true)⟩,
 ⟨(some 63), [], [.t 62], [], [], .not, some (58, true)⟩,
 ⟨(some 64), [], [.t 58, .t 63, .c (.bool false)], [], [], .pick, none⟩] [41, 42, 43, 44, 45, 46, 47, 48, 49, 50, 51, 52, 53, 54, 55, 56, 57, 58, 59, 60, 61, 62, 63] [])
 (.cond (.t 64)
 (.reg [⟨(some 65), [5], [.t 5], [], [], .mv, none⟩,
 ⟨(some 66), [], [.t 9], [9], [], .load true 3, none⟩,
 ⟨(some 67), [], [.t 8], [8], [], .load true 7, none⟩,
 ⟨(some 68), [], [.t 0], [], [], .cp, none⟩,
 ⟨(some 69), [], [.t 6], [], [], .cp, none⟩,
 ⟨(some 70), [], [.t 68, .t 69], [], [], .iaddr none 6, none⟩,
 ⟨(some 71), [], [.t 70], [], [], .faddr 3, none⟩,
 ⟨(some 72), [], [.t 71], [], [], .load false 1, none⟩,
 ⟨(some 73), [], [.t 66, .t 67, .t 72], [], [], .build [.int .i64 0, .int .i64 0, .int .i64 0, .int .i64 0, .sl 1 [], .int .i64 0, .int .i64 0, .str [], .int .i64 0, .sl 3 [], .int .i64 0] [(0, 3), (3, 7), (10, 1)], none⟩,
 ⟨(some 74), [], [.t 73], [], [], .bslice 11 [.int .i64 0, .int .i64 0, .int .i64 0, .int .i64 0, .sl 1 [], .int .i64 0, .int .i64 0, .str [], .int .i64 0, .sl 3 [], .int .i64 0] [(0, 11)], none⟩,
 ⟨(some 75), [65], [.t 65, .t 74], [], [], .append 11 128, none⟩,
 ⟨(some 5), [75], [.t 75], [], [], .mv, none⟩] [65, 66, 67, 68, 69, 70, 71, 72, 73, 74, 75] [])
 .skip)))))
 (.reg [⟨(some 24), [], [.t 7], [], [], .cp, none⟩,
 ⟨(some 25), [], [.t 24, .c (.int .i64 1)], [], [], .bini .add, none⟩,
 ⟨(some 7), [25], [.t 25], [], [], .mv, none⟩] [8, 9, 16, 17, 18, 19, 20, 21, 22, 23, 24, 25, 26, 27, 28, 29, 30, 31, 32, 33, 34, 35, 36, 37, 38, 39, 40, 41, 42, 43, 44, 45, 46, 47, 48, 49, 50, 51, 52, 53, 54, 55, 56, 57, 58, 59, 60, 61, 62, 63, 64, 65, 66, 67, 68, 69, 70, 71, 72, 73, 74, 75] [8, 9])))))))
 (.reg [⟨(some 14), [], [.t 6], [], [], .cp, none⟩,
 ⟨(some 15), [], [.t 14, .c (.int .i64 1)], [], [], .bini .add, none⟩,
 ⟨(some 6), [15], [.t 15], [], [], .mv, none⟩] [7, 8, 9, 10, 11, 12, 13, 14, 15, 16, 17, 18, 19, 20, 21, 22, 23, 24, 25, 26, 27, 28, 29, 30, 31, 32, 33, 34, 35, 36, 37, 38, 39, 40, 41, 42, 43, 44, 45, 46, 47, 48, 49, 50, 51, 52, 53, 54, 55, 56, 57, 58, 59, 60, 61, 62, 63, 64, 65, 66, 67, 68, 69, 70, 71, 72, 73, 74, 75] []))))))
 (.seq
 (.reg [⟨(some 76), [], [.t 5], [], [], .cp, none⟩,
 ⟨(some 4), [76], [.t 76], [], [], .mv, none⟩] [76] [])
 .ret)))) }

def H_plaw13_Same : Hints := [(1, { ops := [], kt := [6, 7, 8, 9], kb := [] }),
 (4, { ops := [], kt := [11, 12, 13], kb := [] }),
 (5, { ops := [], kt := [11, 12, 13, 14, 15, 16, 17, 18, 19, 20, 21, 22, 23, 24, 25, 26, 27, 28, 29, 30, 31, 32, 33, 34, 35, 36, 37, 38, 39, 40, 41, 42, 43, 44, 45, 46, 47, 48, 49, 50, 51, 52, 53, 54], kb := [] }),
 (6, { ops := [], kt := [17, 18, 19, 20, 21, 22, 23, 24, 25, 26, 27, 28, 29, 30, 31, 32, 33, 34, 35, 36, 37, 38, 39, 40, 41, 42, 43, 44, 45, 46, 47, 48, 49, 50, 51, 52, 53], kb := [] })]
def c_plaw13_Same (F : Nat → FuncId) : AFun := { nparams := 2, ntmps := 55, results := [.tmp 4], body :=
 (.seq
 (.reg [⟨(some 4), [], [.c (.bool false)], [], [], .cp, none⟩] [] [])
 (.seq
 (.seq
 (.reg [⟨(some 6), [], [.t 0], [], [], .cp, none⟩,
 ⟨(some 7), [], [.t 6], [], [], .len false, none⟩,
 ⟨(some 8), [], [.t 1], [], [], .cp, none⟩,
 ⟨(some 9), [], [.t 8], [], [], .len false, none⟩,
 ⟨(some 10), [], [.t 7, .t 9], [], [], .bini .neq, none⟩] [6, 7, 8, 9] [])
 (.cond (.t 10)
 (.seq
 (.reg [⟨(some 4), [], [.c (.bool false)], [], [], .cp, none⟩] [] [])
 .ret)
 .skip))
 (.seq
 (.seq
 (.reg [⟨(some 5), [], [.c (.int .i64 0)], [], [], .cp, none⟩] [] [])
 (.block 0
 (.loop
 (.seq
 (.seq
 (.reg [⟨(some 11), [], [.t 5], [], [], .cp, none⟩,
 ⟨(some 12), [], [.t 0], [], [], .cp, none⟩,
 ⟨(some 13), [], [.t 12], [], [], .len false, none⟩,
 ⟨(some 14), [], [.t 11, .t 13], [], [], .bini .lss, none⟩] [11, 12, 13] [])
 (.cond (.t 14)
 .skip
 (.exit 0)))
 (.seq
 (.block 1
 (.seq
 (.reg [⟨(some 17), [], [.t 0], [], [], .cp, none⟩,
 ⟨(some 18), [], [.t 5], [], [], .cp, none⟩,
 ⟨(some 19), [], [.t 17, .t 18], [], [], .iaddr none 11, none⟩,
 ⟨(some 20), [], [.t 19], [], [], .faddr 0, none⟩,
 ⟨(some 21), [], [.t 20], [], [], .load true 3, none⟩,
 ⟨(some 22), [], [.t 1], [], [], .cp, none⟩,
 ⟨(some 23), [], [.t 5], [], [], .cp, none⟩,
 ⟨(some 24), [], [.t 22, .t 23], [], [], .iaddr none 11, none⟩,
 ⟨(some 25), [], [.t 24], [], [], .faddr 0, none⟩,
 ⟨(some 26), [], [.t 25], [], [], .load true 3, none⟩,
 ⟨(some 27), [], [.t 21, .t 26], [], [], .eqa [.i, .i, .i] true, none⟩,
 ⟨(some 28), [], [.t 27], [], [], .cp, none⟩,
 ⟨(some 29), [], [.t 0], [], [], .cp, some (28, false)⟩,
 ⟨(some 30), [], [.t 5], [], [], .cp, some (28, false)⟩,
 ⟨(some 31), [], [.t 29, .t 30], [], [], .iaddr none 11, some (28, false)⟩,
 ⟨(some 32), [], [.t 31], [], [], .faddr 10, some (28, false)⟩,
 ⟨(some 33), [], [.t 32], [], [], .load false 1, some (28, false)⟩,
 ⟨(some 34), [], [.t 1], [], [], .cp, some (28, false)⟩,
 ⟨(some 35), [], [.t 5], [], [], .cp, some (28, false)⟩,
 ⟨(some 36), [], [.t 34, .t 35], [], [], .iaddr none 11, some (28, false)⟩,
 ⟨(some 37), [], [.t 36], [], [], .faddr 10, some (28, false)⟩,
 ⟨(some 38), [], [.t 37], [], [], .load false 1, some (28, false)⟩,
 ⟨(some 39), [], [.t 33, .t 38], [], [], .bini .neq, some (28, false)⟩,
 ⟨(some 40), [], [.t 28, .c (.bool true), .t 39], [], [], .pick, none⟩,
 ⟨(some 41), [], [.t 40], [], [], .cp, none⟩,
 ⟨(some 42), [], [.t 0], [], [], .cp, some (41, false)⟩,
 ⟨(some 43), [], [.t 5], [], [], .cp, some (41, false)⟩,
 ⟨(some 44), [], [.t 42, .t 43], [], [], .iaddr none 11, some (41, false)⟩,
 ⟨(some 45), [], [.t 44], [], [], .faddr 3, some (41, false)⟩,
 ⟨(some 46), [], [.t 45], [], [], .load true 7, some (41, false)⟩,
 ⟨(some 47), [], [.t 1], [], [], .cp, some (41, false)⟩,
 ⟨(some 48), [], [.t 5], [], [], .cp, some (41, false)⟩,
 ⟨(some 49), [], [.t 47, .t 48], [], [], .iaddr none 11, some (41, false)⟩,
 ⟨(some 50), [], [.t 49], [], [], .faddr 3, some (41, false)⟩,
 ⟨(some 51), [], [.t 50], [], [], .load true 7, some (41, false)⟩,
 ⟨(some 52), [], [.c (.fn (F n_pref11_Same)), .t 46, .t 51], [], [], .call 0 false, some (41, false)⟩,
 ⟨(some 53), [], [.t 52], [], [], .not, some (41, false)⟩,
 ⟨(some 54), [], [.t 41, .c (.bool true), .t 53], [], [], .pick, none⟩] [17, 18, 19, 20, 21, 22, 23, 24, 25, 26, 27, 28, 29, 30, 31, 32, 33, 34, 35, 36, 37, 38, 39, 40, 41, 42, 43, 44, 45, 46, 47, 48, 49, 50, 51, 52, 53] [])
 (.cond (.t 54)
 (.seq
 (.reg [⟨(some 4), [], [.c (.bool false)], [], [], .cp, none⟩] [] [])
 .ret)
 .skip)))
 (.reg [⟨(some 15), [], [.t 5], [], [], .cp, none⟩,
 ⟨(some 16), [], [.t 15, .c (.int .i64 1)], [], [], .bini .add, none⟩,
 ⟨(some 5), [16], [.t 16], [], [], .mv, none⟩] [11, 12, 13, 14, 15, 16, 17, 18, 19, 20, 21, 22, 23, 24, 25, 26, 27, 28, 29, 30, 31, 32, 33, 34, 35, 36, 37, 38, 39, 40, 41, 42, 43, 44, 45, 46, 47, 48, 49, 50, 51, 52, 53, 54] []))))))
 (.seq
 (.reg [⟨(some 4), [], [.c (.bool true)], [], [], .cp, none⟩] [] [])
 .ret)))) }

def H_live_At : Hints := [(0, { ops := [(0, { x := 4 })], kt := [], kb := [] }),
 (4, { ops := [(3, { mw := [9] })], kt := [14, 15], kb := [] }),
 (5, { ops := [(2, { mr := [9] }), (9, { mr := [9] })], kt := [16, 17, 18, 19, 20, 21, 22, 23, 24, 25, 26, 27], kb := [] }),
 (6, { ops := [(0, { take := true }), (1, { mr := [9] })], kt := [29, 30, 31, 32], kb := [] }),
 (7, { ops := [], kt := [9, 13, 14, 15, 16, 17, 18, 19, 20, 21, 22, 23, 24, 25, 26, 27, 28, 29, 30, 31, 32, 33], kb := [9] }),
 (8, { ops := [], kt := [34], kb := [] })]
def c_live_At (F : Nat → FuncId) : AFun := { nparams := 3, ntmps := 35, results := [.tmp 6], body :=
 (.seq
 (.reg [⟨(some 6), [], [.c (.sl 11 [])], [], [], .cp, none⟩] [] [])
 (.seq
 (.reg [⟨(some 7), [], [], [], [], .nils 11, none⟩] [] [])
 (.seq
 (.seq
 (.reg [⟨(some 10), [], [.t 0], [], [], .cp, none⟩,
 ⟨(some 11), [], [.t 10], [], [], .len false, none⟩,
 ⟨(some 12), [], [.c (.int .i64 0)], [], [], .cp, none⟩] [] [])
 (.block 0
 (.loop
 (.seq
 (.reg [⟨(some 13), [], [.t 12, .t 11], [], [], .bini .lss, none⟩] [] [])
 (.seq
 (.cond (.t 13)
 .skip
 (.exit 0))
 (.seq
 (.block 1
 (.seq
 (.reg [⟨(some 14), [], [.t 10, .t 12], [], [], .iaddr none 11, none⟩,
 ⟨(some 15), [], [.t 14], [], [], .load true 11, none⟩,
 ⟨(some 9), [], [], [], [9], .alloc [.val (.int .i64 0), .val (.int .i64 0), .val (.int .i64 0), .val (.int .i64 0), .own 1 [], .val (.int .i64 0), .val (.int .i64 0), .val (.str []), .val (.int .i64 0), .own 3 [], .val (.int .i64 0)], none⟩,
 ⟨none, [15], [.t 9, .t 15], [], [9], .store true 11, none⟩] [14, 15] [])
 (.seq
 (.reg [⟨(some 16), [], [.t 9], [], [], .faddr 3, none⟩,
 ⟨(some 17), [], [.t 16], [], [], .faddr 0, none⟩,
 ⟨(some 18), [], [.t 17], [9], [], .load false 1, none⟩,
 ⟨(some 19), [], [.c (.fn (F n_op_Leaf)), .t 18], [], [], .call 0 false, none⟩,
 ⟨(some 20), [], [.t 2], [], [], .cp, none⟩,
 ⟨(some 21), [], [.t 19, .t 20], [], [], .bini .eql, none⟩,
 ⟨(some 22), [], [.t 21], [], [], .cp, none⟩,
 ⟨(some 23), [], [.t 9], [], [], .faddr 3, some (22, true)⟩,
 ⟨(some 24), [], [.t 23], [], [], .faddr 1, some (22, true)⟩,
 ⟨(some 25), [], [.t 24], [9], [], .load false 1, some (22, true)⟩,
 ⟨(some 26), [], [.t 1], [], [], .cp, some (22, true)⟩,
 ⟨(some 27), [], [.c (.fn (F n_path_Same)), .t 25, .t 26], [], [], .call 0 false, some (22, true)⟩,
 ⟨(some 28), [], [.t 22, .t 27, .c (.bool false)], [], [], .pick, none⟩] [16, 17, 18, 19, 20, 21, 22, 23, 24, 25, 26, 27] [])
 (.cond (.t 28)
 (.reg [⟨(some 29), [7], [.t 7], [], [], .mv, none⟩,
 ⟨(some 30), [], [.t 9], [9], [], .load true 11, none⟩,
 ⟨(some 31), [], [.t 30], [], [], .bslice 11 [.int .i64 0, .int .i64 0, .int .i64 0, .int .i64 0, .sl 1 [], .int .i64 0, .int .i64 0, .str [], .int .i64 0, .sl 3 [], .int .i64 0] [(0, 11)], none⟩,
 ⟨(some 32), [29], [.t 29, .t 31], [], [], .append 11 128, none⟩,
 ⟨(some 7), [32], [.t 32], [], [], .mv, none⟩] [29, 30, 31, 32] [])
 .skip))))
 (.reg [⟨(some 33), [], [.t 12, .c (.int .i64 1)], [], [], .bini .add, none⟩,
 ⟨(some 12), [], [.t 33], [], [], .cp, none⟩] [9, 13, 14, 15, 16, 17, 18, 19, 20, 21, 22, 23, 24, 25, 26, 27, 28, 29, 30, 31, 32, 33] [9])))))))
 (.seq
 (.reg [⟨(some 34), [], [.t 7], [], [], .cp, none⟩,
 ⟨(some 6), [34], [.t 34], [], [], .mv, none⟩] [34] [])
 .ret)))) }

def H_pref13_At : Hints := [(0, { ops := [(0, { x := 4 })], kt := [], kb := [] }),
 (3, { ops := [], kt := [9, 10, 11], kb := [] }),
 (4, { ops := [], kt := [9, 10, 11, 12, 13, 14, 15, 16, 17, 18, 19, 20, 21, 22, 23, 24, 25, 26, 27, 28, 29, 30, 31, 32, 33, 34, 35, 36, 37, 38, 39, 40, 41], kb := [] }),
 (5, { ops := [], kt := [15, 16, 17, 18, 19, 20, 21, 22, 23, 24, 25, 26, 27, 28, 29, 30, 31, 32, 33], kb := [] }),
 (6, { ops := [(0, { take := true })], kt := [35, 36, 37, 38, 39, 40, 41], kb := [] }),
 (7, { ops := [], kt := [42], kb := [] })]
def c_pref13_At (F : Nat → FuncId) : AFun := { nparams := 3, ntmps := 43, results := [.tmp 6], body :=
 (.seq
 (.reg [⟨(some 6), [], [.c (.sl 11 [])], [], [], .cp, none⟩] [] [])
 (.seq
 (.reg [⟨(some 7), [], [], [], [], .nils 11, none⟩] [] [])
 (.seq
 (.seq
 (.reg [⟨(some 8), [], [.c (.int .i64 0)], [], [], .cp, none⟩] [] [])
 (.block 0
 (.loop
 (.seq
 (.seq
 (.reg [⟨(some 9), [], [.t 8], [], [], .cp, none⟩,
 ⟨(some 10), [], [.t 0], [], [], .cp, none⟩,
 ⟨(some 11), [], [.t 10], [], [], .len false, none⟩,
 ⟨(some 12), [], [.t 9, .t 11], [], [], .bini .lss, none⟩] [9, 10, 11] [])
 (.cond (.t 12)
 .skip
 (.exit 0)))
 (.seq
 (.block 1
 (.seq
 (.reg [⟨(some 15), [], [.t 0], [], [], .cp, none⟩,
 ⟨(some 16), [], [.t 8], [], [], .cp, none⟩,
 ⟨(some 17), [], [.t 15, .t 16], [], [], .iaddr none 11, none⟩,
 ⟨(some 18), [], [.t 17], [], [], .faddr 3, none⟩,
 ⟨(some 19), [], [.t 18], [], [], .faddr 0, none⟩,
 ⟨(some 20), [], [.t 19], [], [], .load false 1, none⟩,
 ⟨(some 21), [], [.c (.fn (F n_pref11_Leaf)), .t 20], [], [], .call 0 false, none⟩,
 ⟨(some 22), [], [.t 2], [], [], .cp, none⟩,
 ⟨(some 23), [], [.t 21, .t 22], [], [], .bini .eql, none⟩,
 ⟨(some 24), [], [.t 23], [], [], .cp, none⟩,
 ⟨(some 25), [], [.t 0], [], [], .cp, some (24, true)⟩,
 ⟨(some 26), [], [.t 8], [], [], .cp, some (24, true)⟩,
 ⟨(some 27), [], [.t 25, .t 26], [], [], .iaddr none 11, some (24, true)⟩,
 ⟨(some 28), [], [.t 27], [], [], .faddr 3, some (24, true)⟩,
 ⟨(some 29), [], [.t 28], [], [], .faddr 1, some (24, true)⟩,
 ⟨(some 30), [], [.t 29], [], [], .load false 1, some (24, true)⟩,
 ⟨(some 31), [], [.t 1], [], [], .cp, some (24, true)⟩,
 ⟨(some 32), [], [.c (.fn (F n_pref10_Compare)), .t 30, .t 31], [], [], .call 0 false, some (24, true)⟩,
 ⟨(some 33), [], [.t 32, .c (.int .i64 0)], [], [], .bini .eql, some (24, true)⟩,
 ⟨(some 34), [], [.t 24, .t 33, .c (.bool false)], [], [], .pick, none⟩] [15, 16, 17, 18, 19, 20, 21, 22, 23, 24, 25, 26, 27, 28, 29, 30, 31, 32, 33] [])
 (.cond (.t 34)
 (.reg [⟨(some 35), [7], [.t 7], [], [], .mv, none⟩,
 ⟨(some 36), [], [.t 0], [], [], .cp, none⟩,
 ⟨(some 37), [], [.t 8], [], [], .cp, none⟩,
 ⟨(some 38), [], [.t 36, .t 37], [], [], .iaddr none 11, none⟩,
 ⟨(some 39), [], [.t 38], [], [], .load true 11, none⟩,
 ⟨(some 40), [], [.t 39], [], [], .bslice 11 [.int .i64 0, .int .i64 0, .int .i64 0, .int .i64 0, .sl 1 [], .int .i64 0, .int .i64 0, .str [], .int .i64 0, .sl 3 [], .int .i64 0] [(0, 11)], none⟩,
 ⟨(some 41), [35], [.t 35, .t 40], [], [], .append 11 128, none⟩,
 ⟨(some 7), [41], [.t 41], [], [], .mv, none⟩] [35, 36, 37, 38, 39, 40, 41] [])
 .skip)))
 (.reg [⟨(some 13), [], [.t 8], [], [], .cp, none⟩,
 ⟨(some 14), [], [.t 13, .c (.int .i64 1)], [], [], .bini .add, none⟩,
 ⟨(some 8), [14], [.t 14], [], [], .mv, none⟩] [9, 10, 11, 12, 13, 14, 15, 16, 17, 18, 19, 20, 21, 22, 23, 24, 25, 26, 27, 28, 29, 30, 31, 32, 33, 34, 35, 36, 37, 38, 39, 40, 41] []))))))
 (.seq
 (.reg [⟨(some 42), [], [.t 7], [], [], .cp, none⟩,
 ⟨(some 6), [42], [.t 42], [], [], .mv, none⟩] [42] [])
 .ret)))) }

def H_live_Under : Hints := [(0, { ops := [(0, { x := 4 })], kt := [], kb := [] }),
 (4, { ops := [(3, { mw := [7] })], kt := [12, 13], kb := [] }),
 (5, { ops := [(2, { mr := [7] })], kt := [14, 15, 16, 17], kb := [] }),
 (6, { ops := [(0, { take := true }), (1, { mr := [7] })], kt := [19, 20, 21, 22], kb := [] }),
 (7, { ops := [], kt := [7, 11, 12, 13, 14, 15, 16, 17, 18, 19, 20, 21, 22, 23], kb := [7] }),
 (8, { ops := [], kt := [24], kb := [] })]
def c_live_Under (F : Nat → FuncId) : AFun := { nparams := 2, ntmps := 25, results := [.tmp 4], body :=
 (.seq
 (.reg [⟨(some 4), [], [.c (.sl 11 [])], [], [], .cp, none⟩] [] [])
 (.seq
 (.reg [⟨(some 5), [], [], [], [], .nils 11, none⟩] [] [])
 (.seq
 (.seq
 (.reg [⟨(some 8), [], [.t 0], [], [], .cp, none⟩,
 ⟨(some 9), [], [.t 8], [], [], .len false, none⟩,
 ⟨(some 10), [], [.c (.int .i64 0)], [], [], .cp, none⟩] [] [])
 (.block 0
 (.loop
 (.seq
 (.reg [⟨(some 11), [], [.t 10, .t 9], [], [], .bini .lss, none⟩] [] [])
 (.seq
 (.cond (.t 11)
 .skip
 (.exit 0))
 (.seq
 (.block 1
 (.seq
 (.reg [⟨(some 12), [], [.t 8, .t 10], [], [], .iaddr none 11, none⟩,
 ⟨(some 13), [], [.t 12], [], [], .load true 11, none⟩,
 ⟨(some 7), [], [], [], [7], .alloc [.val (.int .i64 0), .val (.int .i64 0), .val (.int .i64 0), .val (.int .i64 0), .own 1 [], .val (.int .i64 0), .val (.int .i64 0), .val (.str []), .val (.int .i64 0), .own 3 [], .val (.int .i64 0)], none⟩,
 ⟨none, [13], [.t 7, .t 13], [], [7], .store true 11, none⟩] [12, 13] [])
 (.seq
 (.reg [⟨(some 14), [], [.t 7], [], [], .faddr 3, none⟩,
 ⟨(some 15), [], [.t 14], [], [], .faddr 1, none⟩,
 ⟨(some 16), [], [.t 15], [7], [], .load false 1, none⟩,
 ⟨(some 17), [], [.t 1], [], [], .cp, none⟩,
 ⟨(some 18), [], [.c (.fn (F n_path_Under)), .t 16, .t 17], [], [], .call 0 false, none⟩] [14, 15, 16, 17] [])
 (.cond (.t 18)
 (.reg [⟨(some 19), [5], [.t 5], [], [], .mv, none⟩,
 ⟨(some 20), [], [.t 7], [7], [], .load true 11, none⟩,
 ⟨(some 21), [], [.t 20], [], [], .bslice 11 [.int .i64 0, .int .i64 0, .int .i64 0, .int .i64 0, .sl 1 [], .int .i64 0, .int .i64 0, .str [], .int .i64 0, .sl 3 [], .int .i64 0] [(0, 11)], none⟩,
 ⟨(some 22), [19], [.t 19, .t 21], [], [], .append 11 128, none⟩,
 ⟨(some 5), [22], [.t 22], [], [], .mv, none⟩] [19, 20, 21, 22] [])
 .skip))))
 (.reg [⟨(some 23), [], [.t 10, .c (.int .i64 1)], [], [], .bini .add, none⟩,
 ⟨(some 10), [], [.t 23], [], [], .cp, none⟩] [7, 11, 12, 13, 14, 15, 16, 17, 18, 19, 20, 21, 22, 23] [7])))))))
 (.seq
 (.reg [⟨(some 24), [], [.t 5], [], [], .cp, none⟩,
 ⟨(some 4), [24], [.t 24], [], [], .mv, none⟩] [24] [])
 .ret)))) }

def H_pref13_Under : Hints := [(0, { ops := [(0, { x := 4 })], kt := [], kb := [] }),
 (3, { ops := [], kt := [7, 8, 9], kb := [] }),
 (4, { ops := [], kt := [7, 8, 9, 10, 11, 12, 13, 14, 15, 16, 17, 18, 19, 20, 21, 22, 23, 24, 25, 26, 27], kb := [] }),
 (5, { ops := [], kt := [13, 14, 15, 16, 17, 18, 19], kb := [] }),
 (6, { ops := [(0, { take := true })], kt := [21, 22, 23, 24, 25, 26, 27], kb := [] }),
 (7, { ops := [], kt := [28], kb := [] })]
def c_pref13_Under (F : Nat → FuncId) : AFun := { nparams := 2, ntmps := 29, results := [.tmp 4], body :=
 (.seq
 (.reg [⟨(some 4), [], [.c (.sl 11 [])], [], [], .cp, none⟩] [] [])
 (.seq
 (.reg [⟨(some 5), [], [], [], [], .nils 11, none⟩] [] [])
 (.seq
 (.seq
 (.reg [⟨(some 6), [], [.c (.int .i64 0)], [], [], .cp, none⟩] [] [])
 (.block 0
 (.loop
 (.seq
 (.seq
 (.reg [⟨(some 7), [], [.t 6], [], [], .cp, none⟩,
 ⟨(some 8), [], [.t 0], [], [], .cp, none⟩,
 ⟨(some 9), [], [.t 8], [], [], .len false, none⟩,
 ⟨(some 10), [], [.t 7, .t 9], [], [], .bini .lss, none⟩] [7, 8, 9] [])
 (.cond (.t 10)
 .skip
 (.exit 0)))
 (.seq
 (.block 1
 (.seq
 (.reg [⟨(some 13), [], [.t 0], [], [], .cp, none⟩,
 ⟨(some 14), [], [.t 6], [], [], .cp, none⟩,
 ⟨(some 15), [], [.t 13, .t 14], [], [], .iaddr none 11, none⟩,
 ⟨(some 16), [], [.t 15], [], [], .faddr 3, none⟩,
 ⟨(some 17), [], [.t 16], [], [], .faddr 1, none⟩,
 ⟨(some 18), [], [.t 17], [], [], .load false 1, none⟩,
 ⟨(some 19), [], [.t 1], [], [], .cp, none⟩,
 ⟨(some 20), [], [.c (.fn (F n_pref10_Under)), .t 18, .t 19], [], [], .call 0 false, none⟩] [13, 14, 15, 16, 17, 18, 19] [])
 (.cond (.t 20)
 (.reg [⟨(some 21), [5], [.t 5], [], [], .mv, none⟩,
 ⟨(some 22), [], [.t 0], [], [], .cp, none⟩,
 ⟨(some 23), [], [.t 6], [], [], .cp, none⟩,
 ⟨(some 24), [], [.t 22, .t 23], [], [], .iaddr none 11, none⟩,
 ⟨(some 25), [], [.t 24], [], [], .load true 11, none⟩,
 ⟨(some 26), [], [.t 25], [], [], .bslice 11 [.int .i64 0, .int .i64 0, .int .i64 0, .int .i64 0, .sl 1 [], .int .i64 0, .int .i64 0, .str [], .int .i64 0, .sl 3 [], .int .i64 0] [(0, 11)], none⟩,
 ⟨(some 27), [21], [.t 21, .t 26], [], [], .append 11 128, none⟩,
 ⟨(some 5), [27], [.t 27], [], [], .mv, none⟩] [21, 22, 23, 24, 25, 26, 27] [])
 .skip)))
 (.reg [⟨(some 11), [], [.t 6], [], [], .cp, none⟩,
 ⟨(some 12), [], [.t 11, .c (.int .i64 1)], [], [], .bini .add, none⟩,
 ⟨(some 6), [12], [.t 12], [], [], .mv, none⟩] [7, 8, 9, 10, 11, 12, 13, 14, 15, 16, 17, 18, 19, 20, 21, 22, 23, 24, 25, 26, 27] []))))))
 (.seq
 (.reg [⟨(some 28), [], [.t 5], [], [], .cp, none⟩,
 ⟨(some 4), [28], [.t 28], [], [], .mv, none⟩] [28] [])
 .ret)))) }

def H_pref13_SameRefs : Hints := [(1, { ops := [], kt := [6, 7, 8, 9], kb := [] }),
 (4, { ops := [], kt := [11, 12, 13], kb := [] }),
 (5, { ops := [], kt := [11, 12, 13, 14, 15, 16, 17, 18, 19, 20, 21, 22, 23, 24, 25], kb := [] }),
 (6, { ops := [], kt := [17, 18, 19, 20, 21, 22, 23, 24], kb := [] })]
def c_pref13_SameRefs (F : Nat → FuncId) : AFun := { nparams := 2, ntmps := 26, results := [.tmp 4], body :=
 (.seq
 (.reg [⟨(some 4), [], [.c (.bool false)], [], [], .cp, none⟩] [] [])
 (.seq
 (.seq
 (.reg [⟨(some 6), [], [.t 0], [], [], .cp, none⟩,
 ⟨(some 7), [], [.t 6], [], [], .len false, none⟩,
 ⟨(some 8), [], [.t 1], [], [], .cp, none⟩,
 ⟨(some 9), [], [.t 8], [], [], .len false, none⟩,
 ⟨(some 10), [], [.t 7, .t 9], [], [], .bini .neq, none⟩] [6, 7, 8, 9] [])
 (.cond (.t 10)
 (.seq
 (.reg [⟨(some 4), [], [.c (.bool false)], [], [], .cp, none⟩] [] [])
 .ret)
 .skip))
 (.seq
 (.seq
 (.reg [⟨(some 5), [], [.c (.int .i64 0)], [], [], .cp, none⟩] [] [])
 (.block 0
 (.loop
 (.seq
 (.seq
 (.reg [⟨(some 11), [], [.t 5], [], [], .cp, none⟩,
 ⟨(some 12), [], [.t 0], [], [], .cp, none⟩,
 ⟨(some 13), [], [.t 12], [], [], .len false, none⟩,
 ⟨(some 14), [], [.t 11, .t 13], [], [], .bini .lss, none⟩] [11, 12, 13] [])
 (.cond (.t 14)
 .skip
 (.exit 0)))
 (.seq
 (.block 1
 (.seq
 (.reg [⟨(some 17), [], [.t 0], [], [], .cp, none⟩,
 ⟨(some 18), [], [.t 5], [], [], .cp, none⟩,
 ⟨(some 19), [], [.t 17, .t 18], [], [], .iaddr none 3, none⟩,
 ⟨(some 20), [], [.t 19], [], [], .load true 3, none⟩,
 ⟨(some 21), [], [.t 1], [], [], .cp, none⟩,
 ⟨(some 22), [], [.t 5], [], [], .cp, none⟩,
 ⟨(some 23), [], [.t 21, .t 22], [], [], .iaddr none 3, none⟩,
 ⟨(some 24), [], [.t 23], [], [], .load true 3, none⟩,
 ⟨(some 25), [], [.t 20, .t 24], [], [], .eqa [.i, .i, .i] true, none⟩] [17, 18, 19, 20, 21, 22, 23, 24] [])
 (.cond (.t 25)
 (.seq
 (.reg [⟨(some 4), [], [.c (.bool false)], [], [], .cp, none⟩] [] [])
 .ret)
 .skip)))
 (.reg [⟨(some 15), [], [.t 5], [], [], .cp, none⟩,
 ⟨(some 16), [], [.t 15, .c (.int .i64 1)], [], [], .bini .add, none⟩,
 ⟨(some 5), [16], [.t 16], [], [], .mv, none⟩] [11, 12, 13, 14, 15, 16, 17, 18, 19, 20, 21, 22, 23, 24, 25] []))))))
 (.seq
 (.reg [⟨(some 4), [], [.c (.bool true)], [], [], .cp, none⟩] [] [])
 .ret)))) }

def H_live_Refs : Hints := [(0, { ops := [(0, { x := 4 })], kt := [], kb := [] }),
 (4, { ops := [(3, { mw := [5] })], kt := [10, 11], kb := [] }),
 (5, { ops := [(0, { take := true }), (2, { mr := [5] })], kt := [12, 13, 14, 15, 16], kb := [] }),
 (6, { ops := [], kt := [5, 9, 10, 11, 12, 13, 14, 15, 16, 17], kb := [5] }),
 (7, { ops := [], kt := [18], kb := [] })]
def c_live_Refs (F : Nat → FuncId) : AFun := { nparams := 1, ntmps := 19, results := [.tmp 2], body :=
 (.seq
 (.reg [⟨(some 2), [], [.c (.sl 3 [])], [], [], .cp, none⟩] [] [])
 (.seq
 (.reg [⟨(some 3), [], [], [], [], .nils 3, none⟩] [] [])
 (.seq
 (.seq
 (.reg [⟨(some 6), [], [.t 0], [], [], .cp, none⟩,
 ⟨(some 7), [], [.t 6], [], [], .len false, none⟩,
 ⟨(some 8), [], [.c (.int .i64 0)], [], [], .cp, none⟩] [] [])
 (.block 0
 (.loop
 (.seq
 (.reg [⟨(some 9), [], [.t 8, .t 7], [], [], .bini .lss, none⟩] [] [])
 (.seq
 (.cond (.t 9)
 .skip
 (.exit 0))
 (.seq
 (.block 1
 (.seq
 (.reg [⟨(some 10), [], [.t 6, .t 8], [], [], .iaddr none 11, none⟩,
 ⟨(some 11), [], [.t 10], [], [], .load true 11, none⟩,
 ⟨(some 5), [], [], [], [5], .alloc [.val (.int .i64 0), .val (.int .i64 0), .val (.int .i64 0), .val (.int .i64 0), .own 1 [], .val (.int .i64 0), .val (.int .i64 0), .val (.str []), .val (.int .i64 0), .own 3 [], .val (.int .i64 0)], none⟩,
 ⟨none, [11], [.t 5, .t 11], [], [5], .store true 11, none⟩] [10, 11] [])
 (.reg [⟨(some 12), [3], [.t 3], [], [], .mv, none⟩,
 ⟨(some 13), [], [.t 5], [], [], .faddr 0, none⟩,
 ⟨(some 14), [], [.t 13], [5], [], .load true 3, none⟩,
 ⟨(some 15), [], [.t 14], [], [], .bslice 3 [.int .i64 0, .int .i64 0, .int .i64 0] [(0, 3)], none⟩,
 ⟨(some 16), [12], [.t 12, .t 15], [], [], .append 3 24, none⟩,
 ⟨(some 3), [16], [.t 16], [], [], .mv, none⟩] [12, 13, 14, 15, 16] [])))
 (.reg [⟨(some 17), [], [.t 8, .c (.int .i64 1)], [], [], .bini .add, none⟩,
 ⟨(some 8), [], [.t 17], [], [], .cp, none⟩] [5, 9, 10, 11, 12, 13, 14, 15, 16, 17] [5])))))))
 (.seq
 (.reg [⟨(some 18), [], [.t 3], [], [], .cp, none⟩,
 ⟨(some 2), [18], [.t 18], [], [], .mv, none⟩] [18] [])
 .ret)))) }

def H_pref13_Refs : Hints := [(0, { ops := [(0, { x := 4 })], kt := [], kb := [] }),
 (3, { ops := [], kt := [5, 6, 7], kb := [] }),
 (4, { ops := [], kt := [5, 6, 7, 8, 9, 10, 11, 12, 13, 14, 15, 16, 17, 18], kb := [] }),
 (5, { ops := [(0, { take := true })], kt := [11, 12, 13, 14, 15, 16, 17, 18], kb := [] }),
 (6, { ops := [], kt := [19], kb := [] })]
def c_pref13_Refs (F : Nat → FuncId) : AFun := { nparams := 1, ntmps := 20, results := [.tmp 2], body :=
 (.seq
 (.reg [⟨(some 2), [], [.c (.sl 3 [])], [], [], .cp, none⟩] [] [])
 (.seq
 (.reg [⟨(some 3), [], [], [], [], .nils 3, none⟩] [] [])
 (.seq
 (.seq
 (.reg [⟨(some 4), [], [.c (.int .i64 0)], [], [], .cp, none⟩] [] [])
 (.block 0
 (.loop
 (.seq
 (.seq
 (.reg [⟨(some 5), [], [.t 4], [], [], .cp, none⟩,
 ⟨(some 6), [], [.t 0], [], [], .cp, none⟩,
 ⟨(some 7), [], [.t 6], [], [], .len false, none⟩,
 ⟨(some 8), [], [.t 5, .t 7], [], [], .bini .lss, none⟩] [5, 6, 7] [])
 (.cond (.t 8)
 .skip
 (.exit 0)))
 (.seq
 (.block 1
 (.reg [⟨(some 11), [3], [.t 3], [], [], .mv, none⟩,
 ⟨(some 12), [], [.t 0], [], [], .cp, none⟩,
 ⟨(some 13), [], [.t 4], [], [], .cp, none⟩,
 ⟨(some 14), [], [.t 12, .t 13], [], [], .iaddr none 11, none⟩,
 ⟨(some 15), [], [.t 14], [], [], .faddr 0, none⟩,
 ⟨(some 16), [], [.t 15], [], [], .load true 3, none⟩,
 ⟨(some 17), [], [.t 16], [], [], .bslice 3 [.int .i64 0, .int .i64 0, .int .i64 0] [(0, 3)], none⟩,
 ⟨(some 18), [11], [.t 11, .t 17], [], [], .append 3 24, none⟩,
 ⟨(some 3), [18], [.t 18], [], [], .mv, none⟩] [11, 12, 13, 14, 15, 16, 17, 18] []))
 (.reg [⟨(some 9), [], [.t 4], [], [], .cp, none⟩,
 ⟨(some 10), [], [.t 9, .c (.int .i64 1)], [], [], .bini .add, none⟩,
 ⟨(some 4), [10], [.t 10], [], [], .mv, none⟩] [5, 6, 7, 8, 9, 10, 11, 12, 13, 14, 15, 16, 17, 18] []))))))
 (.seq
 (.reg [⟨(some 19), [], [.t 3], [], [], .cp, none⟩,
 ⟨(some 2), [19], [.t 19], [], [], .mv, none⟩] [19] [])
 .ret)))) }

def H_live_With : Hints := [(0, { ops := [(1, { x := 4 })], kt := [], kb := [] }),
 (1, { ops := [(1, { mr := [3] })], kt := [5, 6, 7], kb := [] }),
 (2, { ops := [], kt := [9], kb := [] }),
 (3, { ops := [(1, { mr := [3] })], kt := [10, 11, 12], kb := [] })]
def c_live_With (F : Nat → FuncId) : AFun := { nparams := 2, ntmps := 13, results := [.tmp 4], body :=
 (.seq
 (.reg [⟨(some 3), [], [.t 1], [], [3], .box, none⟩,
 ⟨(some 4), [], [.c (.sl 6 [])], [], [], .cp, none⟩] [] [])
 (.seq
 (.seq
 (.reg [⟨(some 5), [], [.t 3], [], [], .faddr 5, none⟩,
 ⟨(some 6), [], [.t 5], [3], [], .load false 1, none⟩,
 ⟨(some 7), [], [.t 6], [], [], .len false, none⟩,
 ⟨(some 8), [], [.t 7, .c (.int .i64 0)], [], [], .bini .eql, none⟩] [5, 6, 7] [])
 (.cond (.t 8)
 (.seq
 (.reg [⟨(some 9), [], [.t 0], [], [], .cp, none⟩,
 ⟨(some 4), [9], [.t 9], [], [], .mv, none⟩] [9] [])
 .ret)
 .skip))
 (.seq
 (.reg [⟨(some 10), [], [.t 0], [], [], .cp, none⟩,
 ⟨(some 11), [], [.t 3], [3], [], .load true 6, none⟩,
 ⟨(some 12), [], [.c (.fn (F n_txn_Put)), .t 10, .t 11], [], [], .call 0 false, none⟩,
 ⟨(some 4), [12], [.t 12], [], [], .mv, none⟩] [10, 11, 12] [])
 .ret))) }

def H_plaw13_put : Hints := [(1, { ops := [(10, { mw := [6] })], kt := [7, 8, 9, 10, 11, 12, 13, 14, 15, 16], kb := [] })]
def c_plaw13_put (F : Nat → FuncId) : AFun := { nparams := 3, ntmps := 17, results := [.cell 6 true 6], body :=
 (.seq
 (.reg [⟨(some 6), [], [], [], [6], .alloc [.val (.int .i64 0), .val (.int .i64 0), .val (.int .i64 0), .val (.int .i64 0), .val (.bool false), .own 7 []], none⟩] [] [])
 (.seq
 (.reg [⟨(some 7), [], [.t 0], [], [], .cp, none⟩,
 ⟨(some 8), [], [.t 7], [], [], .build [.int .i64 0, .int .i64 0] [(1, 1)], none⟩,
 ⟨(some 9), [], [.t 0], [], [], .cp, none⟩,
 ⟨(some 10), [], [.c (.str [97])], [], [], .bslice 1 [.str []] [(0, 1)], none⟩,
 ⟨(some 11), [], [.t 1], [], [], .cp, none⟩,
 ⟨(some 12), [], [.c (.int .i64 1), .t 11], [], [], .build [.int .i64 0, .int .i64 0, .str []] [(0, 1), (1, 1)], none⟩,
 ⟨(some 13), [], [.t 2], [], [], .cp, none⟩,
 ⟨(some 14), [], [.c (.int .i64 1), .t 10, .t 12, .t 13], [], [], .build [.int .i64 0, .sl 1 [], .int .i64 0, .int .i64 0, .str [], .int .i64 0, .sl 3 []] [(0, 1), (1, 1), (2, 3), (6, 1)], none⟩,
 ⟨(some 15), [], [.t 14], [], [], .bslice 7 [.int .i64 0, .sl 1 [], .int .i64 0, .int .i64 0, .str [], .int .i64 0, .sl 3 []] [(0, 7)], none⟩,
 ⟨(some 16), [], [.t 8, .t 9, .t 15], [], [], .build [.int .i64 0, .int .i64 0, .int .i64 0, .int .i64 0, .bool false, .sl 7 []] [(0, 2), (3, 1), (5, 1)], none⟩,
 ⟨none, [16], [.t 6, .t 16], [], [6], .store true 6, none⟩] [7, 8, 9, 10, 11, 12, 13, 14, 15, 16] [])
 .ret)) }

def H_live_covered : Hints := [(0, { ops := [(0, { x := 6 })], kt := [], kb := [] }),
 (1, { ops := [], kt := [12], kb := [] }),
 (4, { ops := [(3, { mw := [7] })], kt := [17, 18], kb := [] }),
 (5, { ops := [(2, { mr := [7] })], kt := [19, 20, 21, 22], kb := [] }),
 (6, { ops := [(1, { mr := [7] })], kt := [24], kb := [] }),
 (8, { ops := [(3, { mw := [9] })], kt := [29, 30], kb := [] }),
 (9, { ops := [(1, { mr := [9] })], kt := [31], kb := [] }),
 (11, { ops := [(3, { mw := [11] })], kt := [36, 37], kb := [] }),
 (12, { ops := [(1, { mr := [11] }), (2, { mw := [12] })], kt := [38, 39], kb := [] }),
 (13, { ops := [], kt := [11, 35, 36, 37, 38, 39, 40], kb := [11] }),
 (14, { ops := [], kt := [9, 11, 28, 29, 30, 31, 32, 33, 34, 35, 36, 37, 38, 39, 40, 41], kb := [9] }),
 (15, { ops := [], kt := [7, 9, 11, 16, 17, 18, 19, 20, 21, 22, 23, 24, 25, 26, 27, 28, 29, 30, 31, 32, 33, 34, 35, 36, 37, 38, 39, 40, 41, 42], kb := [7] }),
 (16, { ops := [], kt := [43], kb := [] })]
def c_live_covered (F : Nat → FuncId) : AFun := { nparams := 2, ntmps := 44, results := [.tmp 4], body :=
 (.seq
 (.reg [⟨(some 4), [], [], [], [], .junk, none⟩] [] [])
 (.seq
 (.reg [⟨(some 12), [], [], [], [12], .mkmap, none⟩,
 ⟨(some 5), [12], [.t 12], [], [], .mv, none⟩] [12] [])
 (.seq
 (.seq
 (.reg [⟨(some 13), [], [.t 0], [], [], .cp, none⟩,
 ⟨(some 14), [], [.t 13], [], [], .len false, none⟩,
 ⟨(some 15), [], [.c (.int .i64 0)], [], [], .cp, none⟩] [] [])
 (.block 0
 (.loop
 (.seq
 (.reg [⟨(some 16), [], [.t 15, .t 14], [], [], .bini .lss, none⟩] [] [])
 (.seq
 (.cond (.t 16)
 .skip
 (.exit 0))
 (.seq
 (.block 1
 (.seq
 (.reg [⟨(some 17), [], [.t 13, .t 15], [], [], .iaddr none 6, none⟩,
 ⟨(some 18), [], [.t 17], [], [], .load true 6, none⟩,
 ⟨(some 7), [], [], [], [7], .alloc [.val (.int .i64 0), .val (.int .i64 0), .val (.int .i64 0), .val (.int .i64 0), .val (.bool false), .own 7 []], none⟩,
 ⟨none, [18], [.t 7, .t 18], [], [7], .store true 6, none⟩] [17, 18] [])
 (.seq
 (.seq
 (.reg [⟨(some 19), [], [.t 1], [], [], .cp, none⟩,
 ⟨(some 20), [], [.t 7], [], [], .faddr 0, none⟩,
 ⟨(some 21), [], [.t 20], [7], [], .load true 2, none⟩,
 ⟨(some 22), [], [.c (.fn (F n_tally_Seen)), .t 19, .t 21], [], [], .call 0 false, none⟩,
 ⟨(some 23), [], [.t 22], [], [], .not, none⟩] [19, 20, 21, 22] [])
 (.cond (.t 23)
 (.exit 1)
 .skip))
 (.seq
 (.reg [⟨(some 24), [], [.t 7], [], [], .faddr 5, none⟩,
 ⟨(some 25), [], [.t 24], [7], [], .load false 1, none⟩,
 ⟨(some 26), [], [.t 25], [], [], .len false, none⟩,
 ⟨(some 27), [], [.c (.int .i64 0)], [], [], .cp, none⟩] [24] [])
 (.block 2
 (.loop
 (.seq
 (.reg [⟨(some 28), [], [.t 27, .t 26], [], [], .bini .lss, none⟩] [] [])
 (.seq
 (.cond (.t 28)
 .skip
 (.exit 2))
 (.seq
 (.block 3
 (.seq
 (.reg [⟨(some 29), [], [.t 25, .t 27], [], [], .iaddr none 7, none⟩,
 ⟨(some 30), [], [.t 29], [], [], .load true 7, none⟩,
 ⟨(some 9), [], [], [], [9], .alloc [.val (.int .i64 0), .own 1 [], .val (.int .i64 0), .val (.int .i64 0), .val (.str []), .val (.int .i64 0), .own 3 []], none⟩,
 ⟨none, [30], [.t 9, .t 30], [], [9], .store true 7, none⟩] [29, 30] [])
 (.seq
 (.reg [⟨(some 31), [], [.t 9], [], [], .faddr 6, none⟩,
 ⟨(some 32), [], [.t 31], [9], [], .load false 1, none⟩,
 ⟨(some 33), [], [.t 32], [], [], .len false, none⟩,
 ⟨(some 34), [], [.c (.int .i64 0)], [], [], .cp, none⟩] [31] [])
 (.block 4
 (.loop
 (.seq
 (.reg [⟨(some 35), [], [.t 34, .t 33], [], [], .bini .lss, none⟩] [] [])
 (.seq
 (.cond (.t 35)
 .skip
 (.exit 4))
 (.seq
 (.block 5
 (.seq
 (.reg [⟨(some 36), [], [.t 32, .t 34], [], [], .iaddr none 3, none⟩,
 ⟨(some 37), [], [.t 36], [], [], .load true 3, none⟩,
 ⟨(some 11), [], [], [], [11], .alloc [.val (.int .i64 0), .val (.int .i64 0), .val (.int .i64 0)], none⟩,
 ⟨none, [37], [.t 11, .t 37], [], [11], .store true 3, none⟩] [36, 37] [])
 (.reg [⟨(some 38), [], [.t 5], [], [], .cp, none⟩,
 ⟨(some 39), [], [.t 11], [11], [], .load true 3, none⟩,
 ⟨none, [], [.t 38, .t 39, .c (.bool true)], [], [12], .mapup [.i, .i, .i], none⟩] [38, 39] [])))
 (.reg [⟨(some 40), [], [.t 34, .c (.int .i64 1)], [], [], .bini .add, none⟩,
 ⟨(some 34), [], [.t 40], [], [], .cp, none⟩] [11, 35, 36, 37, 38, 39, 40] [11])))))))))
 (.reg [⟨(some 41), [], [.t 27, .c (.int .i64 1)], [], [], .bini .add, none⟩,
 ⟨(some 27), [], [.t 41], [], [], .cp, none⟩] [9, 11, 28, 29, 30, 31, 32, 33, 34, 35, 36, 37, 38, 39, 40, 41] [9]))))))))))
 (.reg [⟨(some 42), [], [.t 15, .c (.int .i64 1)], [], [], .bini .add, none⟩,
 ⟨(some 15), [], [.t 42], [], [], .cp, none⟩] [7, 9, 11, 16, 17, 18, 19, 20, 21, 22, 23, 24, 25, 26, 27, 28, 29, 30, 31, 32, 33, 34, 35, 36, 37, 38, 39, 40, 41, 42] [7])))))))
 (.seq
 (.reg [⟨(some 43), [], [.t 5], [], [], .cp, none⟩,
 ⟨(some 4), [43], [.t 43], [], [], .mv, none⟩] [43] [])
 .ret)))) }

def H_slices_EqualFunc_live_Item_live_Item_live_Item_live_Item : Hints := [(1, { ops := [], kt := [10, 11, 12, 13], kb := [] }),
 (5, { ops := [(5, { mw := [8] })], kt := [19, 20, 21], kb := [] }),
 (6, { ops := [(5, { mw := [9] })], kt := [22, 23, 24, 25], kb := [] }),
 (7, { ops := [(1, { mr := [8] }), (2, { mr := [9] })], kt := [26, 27, 28, 29], kb := [] }),
 (9, { ops := [], kt := [7, 8, 9, 18, 19, 20, 21, 22, 23, 24, 25, 26, 27, 28, 29, 30, 31], kb := [8, 9] })]
def c_slices_EqualFunc_live_Item_live_Item_live_Item_live_Item (F : Nat → FuncId) : AFun := { nparams := 3, ntmps := 32, results := [.tmp 6], body :=
 (.seq
 (.reg [⟨(some 6), [], [.c (.bool false)], [], [], .cp, none⟩] [] [])
 (.seq
 (.seq
 (.reg [⟨(some 10), [], [.t 0], [], [], .cp, none⟩,
 ⟨(some 11), [], [.t 10], [], [], .len false, none⟩,
 ⟨(some 12), [], [.t 1], [], [], .cp, none⟩,
 ⟨(some 13), [], [.t 12], [], [], .len false, none⟩,
 ⟨(some 14), [], [.t 11, .t 13], [], [], .bini .neq, none⟩] [10, 11, 12, 13] [])
 (.cond (.t 14)
 (.seq
 (.reg [⟨(some 6), [], [.c (.bool false)], [], [], .cp, none⟩] [] [])
 .ret)
 .skip))
 (.seq
 (.seq
 (.reg [⟨(some 15), [], [.t 0], [], [], .cp, none⟩,
 ⟨(some 16), [], [.t 15], [], [], .len false, none⟩,
 ⟨(some 17), [], [.c (.int .i64 0)], [], [], .cp, none⟩] [] [])
 (.block 0
 (.loop
 (.seq
 (.reg [⟨(some 18), [], [.t 17, .t 16], [], [], .bini .lss, none⟩] [] [])
 (.seq
 (.cond (.t 18)
 .skip
 (.exit 0))
 (.seq
 (.block 1
 (.seq
 (.reg [⟨(some 19), [], [.t 17], [], [], .cp, none⟩,
 ⟨(some 20), [], [.t 15, .t 17], [], [], .iaddr none 11, none⟩,
 ⟨(some 21), [], [.t 20], [], [], .load true 11, none⟩,
 ⟨(some 8), [], [], [], [8], .alloc [.val (.int .i64 0), .val (.int .i64 0), .val (.int .i64 0), .val (.int .i64 0), .own 1 [], .val (.int .i64 0), .val (.int .i64 0), .val (.str []), .val (.int .i64 0), .own 3 [], .val (.int .i64 0)], none⟩,
 ⟨(some 7), [19], [.t 19], [], [], .mv, none⟩,
 ⟨none, [21], [.t 8, .t 21], [], [8], .store true 11, none⟩] [19, 20, 21] [])
 (.seq
 (.reg [⟨(some 22), [], [.t 1], [], [], .cp, none⟩,
 ⟨(some 23), [], [.t 7], [], [], .cp, none⟩,
 ⟨(some 24), [], [.t 22, .t 23], [], [], .iaddr none 11, none⟩,
 ⟨(some 25), [], [.t 24], [], [], .load true 11, none⟩,
 ⟨(some 9), [], [], [], [9], .alloc [.val (.int .i64 0), .val (.int .i64 0), .val (.int .i64 0), .val (.int .i64 0), .own 1 [], .val (.int .i64 0), .val (.int .i64 0), .val (.str []), .val (.int .i64 0), .own 3 [], .val (.int .i64 0)], none⟩,
 ⟨none, [25], [.t 9, .t 25], [], [9], .store true 11, none⟩] [22, 23, 24, 25] [])
 (.seq
 (.reg [⟨(some 26), [], [.t 2], [], [], .cp, none⟩,
 ⟨(some 27), [], [.t 8], [8], [], .load true 11, none⟩,
 ⟨(some 28), [], [.t 9], [9], [], .load true 11, none⟩,
 ⟨(some 29), [], [.t 26, .t 27, .t 28], [], [], .call 0 false, none⟩,
 ⟨(some 30), [], [.t 29], [], [], .not, none⟩] [26, 27, 28, 29] [])
 (.cond (.t 30)
 (.seq
 (.reg [⟨(some 6), [], [.c (.bool false)], [], [], .cp, none⟩] [] [])
 .ret)
 .skip)))))
 (.reg [⟨(some 31), [], [.t 17, .c (.int .i64 1)], [], [], .bini .add, none⟩,
 ⟨(some 17), [], [.t 31], [], [], .cp, none⟩] [7, 8, 9, 18, 19, 20, 21, 22, 23, 24, 25, 26, 27, 28, 29, 30, 31] [8, 9])))))))
 (.seq
 (.reg [⟨(some 6), [], [.c (.bool true)], [], [], .cp, none⟩] [] [])
 .ret)))) }

def H_live_Same_1 : Hints := [(1, { ops := [(1, { mr := [2] }), (3, { mr := [3] }), (7, { mr := [2] }), (9, { mr := [3] }), (14, { mr := [2] }), (16, { mr := [3] })], kt := [5, 6, 7, 8, 9, 10, 11, 12, 13, 14, 15, 16, 17, 18, 19, 20, 21, 22, 23], kb := [] })]
def c_live_Same_1 (F : Nat → FuncId) : AFun := { nparams := 2, ntmps := 24, results := [.tmp 4], body :=
 (.seq
 (.reg [⟨(some 2), [], [.t 0], [], [2], .box, none⟩,
 ⟨(some 3), [], [.t 1], [], [3], .box, none⟩,
 ⟨(some 4), [], [.c (.bool false)], [], [], .cp, none⟩] [] [])
 (.seq
 (.reg [⟨(some 5), [], [.t 2], [], [], .faddr 0, none⟩,
 ⟨(some 6), [], [.t 5], [2], [], .load true 3, none⟩,
 ⟨(some 7), [], [.t 3], [], [], .faddr 0, none⟩,
 ⟨(some 8), [], [.t 7], [3], [], .load true 3, none⟩,
 ⟨(some 9), [], [.t 6, .t 8], [], [], .eqa [.i, .i, .i] false, none⟩,
 ⟨(some 10), [], [.t 9], [], [], .cp, none⟩,
 ⟨(some 11), [], [.t 2], [], [], .faddr 10, some (10, true)⟩,
 ⟨(some 12), [], [.t 11], [2], [], .load false 1, some (10, true)⟩,
 ⟨(some 13), [], [.t 3], [], [], .faddr 10, some (10, true)⟩,
 ⟨(some 14), [], [.t 13], [3], [], .load false 1, some (10, true)⟩,
 ⟨(some 15), [], [.t 12, .t 14], [], [], .bini .eql, some (10, true)⟩,
 ⟨(some 16), [], [.t 10, .t 15, .c (.bool false)], [], [], .pick, none⟩,
 ⟨(some 17), [], [.t 16], [], [], .cp, none⟩,
 ⟨(some 18), [], [.t 2], [], [], .faddr 3, some (17, true)⟩,
 ⟨(some 19), [], [.t 18], [2], [], .load true 7, some (17, true)⟩,
 ⟨(some 20), [], [.t 3], [], [], .faddr 3, some (17, true)⟩,
 ⟨(some 21), [], [.t 20], [3], [], .load true 7, some (17, true)⟩,
 ⟨(some 22), [], [.c (.fn (F n_op_Same)), .t 19, .t 21], [], [], .call 0 false, some (17, true)⟩,
 ⟨(some 23), [], [.t 17, .t 22, .c (.bool false)], [], [], .pick, none⟩,
 ⟨(some 4), [23], [.t 23], [], [], .mv, none⟩] [5, 6, 7, 8, 9, 10, 11, 12, 13, 14, 15, 16, 17, 18, 19, 20, 21, 22, 23] [])
 .ret)) }

end Go.AR
