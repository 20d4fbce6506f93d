import Derived.Test.YtlhahjlnhkokcaaG02
import Derived.Test.YtlhahjlnhkokcaaG03
set_option linter.all false
/-! Codes, printed by program. -/
namespace Go.AR
def H_plaw31_NetKeeps : Hints := [(1, { ops := [], kt := [14, 15], kb := [] }),
 (2, { ops := [], kt := [17], kb := [] }),
 (3, { ops := [(0, { mw := [18], new := true })], kt := [18], kb := [] }),
 (5, { ops := [], kt := [19, 20, 21], kb := [] }),
 (6, { ops := [], kt := [19, 20, 21, 22, 23, 24, 25, 26, 27, 28, 29, 30, 31, 32, 33, 34, 35, 36, 37, 38, 39], kb := [] }),
 (7, { ops := [], kt := [25, 26, 27, 28, 29, 30], kb := [] }),
 (8, { ops := [], kt := [32], kb := [] }),
 (9, { ops := [(5, { mw := [18], nref := 1 })], kt := [33, 34, 35, 36, 37, 38], kb := [] }),
 (11, { ops := [(3, { mw := [18], nref := 1 })], kt := [40, 41, 42, 43], kb := [] }),
 (12, { ops := [(3, { mw := [18], nref := 1 })], kt := [44, 45, 46, 47], kb := [] }),
 (13, { ops := [], kt := [48, 49], kb := [] }),
 (16, { ops := [], kt := [51, 52, 53], kb := [] }),
 (17, { ops := [], kt := [12, 13, 51, 52, 53, 54, 55, 56, 57, 58, 59, 60, 61, 62, 63, 64, 65, 66, 67, 68, 69, 70, 71, 72, 73, 74, 75, 76, 77, 78, 79, 80, 81, 82, 83, 84, 85, 86, 87, 88, 89, 90, 91, 92, 93], kb := [12] }),
 (18, { ops := [(1, { mw := [18], nref := 1 }), (6, { mw := [12] })], kt := [57, 58, 59, 60, 61], kb := [] }),
 (19, { ops := [(4, { mr := [12] }), (14, { mr := [12] }), (24, { mr := [12] })], kt := [62, 63, 64, 65, 66, 67, 68, 69, 70, 71, 72, 73, 74, 75, 76, 77, 78, 79, 80, 81, 82, 83, 84, 85, 86, 87, 88, 89, 90, 91, 92], kb := [] }),
 (21, { ops := [(1, { mw := [18], nref := 1 })], kt := [94, 95, 96, 97, 98, 99], kb := [] })]
def c_plaw31_NetKeeps (F : Nat → FuncId) : AFun := { nparams := 3, ntmps := 100, results := [.tmp 6], body :=
 (.seq
 (.reg [⟨(some 6), [], [.c (.bool false)], [], [], .cp, none⟩] [] [])
 (.seq
 (.seq
 (.reg [⟨(some 14), [], [.t 0], [], [], .cp, none⟩,
 ⟨(some 15), [], [.t 14], [], [], .len false, none⟩,
 ⟨(some 16), [], [.t 15, .c (.int .i64 40)], [], [], .bini .gtr, none⟩] [14, 15] [])
 (.cond (.t 16)
 (.seq
 (.reg [⟨(some 17), [], [.c (.fn (F n_plaw31_awake))], [], [], .call 0 false, none⟩,
 ⟨(some 6), [17], [.t 17], [], [], .mv, none⟩] [17] [])
 .ret)
 .skip))
 (.seq
 (.reg [⟨(some 18), [], [.c (.fn (F n_net_New))], [], [18], .call 0 true, none⟩,
 ⟨(some 7), [18], [.t 18], [], [], .mv, none⟩] [18] [])
 (.seq
 (.seq
 (.reg [⟨(some 8), [], [.c (.int .i64 0)], [], [], .cp, none⟩] [] [])
 (.block 0
 (.loop
 (.seq
 (.seq
 (.reg [⟨(some 19), [], [.t 8], [], [], .cp, none⟩,
 ⟨(some 20), [], [.t 0], [], [], .cp, none⟩,
 ⟨(some 21), [], [.t 20], [], [], .len false, none⟩,
 ⟨(some 22), [], [.t 19, .t 21], [], [], .bini .lss, none⟩] [19, 20, 21] [])
 (.cond (.t 22)
 .skip
 (.exit 0)))
 (.seq
 (.block 1
 (.seq
 (.seq
 (.reg [⟨(some 25), [], [.t 0], [], [], .cp, none⟩,
 ⟨(some 26), [], [.t 8], [], [], .cp, none⟩,
 ⟨(some 27), [], [.t 25, .t 26], [], [], .iaddr none 3, none⟩,
 ⟨(some 28), [], [.t 27], [], [], .faddr 2, none⟩,
 ⟨(some 29), [], [.t 28], [], [], .load false 1, none⟩,
 ⟨(some 30), [], [.t 29], [], [], .len true, none⟩,
 ⟨(some 31), [], [.t 30, .c (.int .i64 300)], [], [], .bini .gtr, none⟩] [25, 26, 27, 28, 29, 30] [])
 (.cond (.t 31)
 (.seq
 (.reg [⟨(some 32), [], [.c (.fn (F n_plaw31_awake))], [], [], .call 0 false, none⟩,
 ⟨(some 6), [32], [.t 32], [], [], .mv, none⟩] [32] [])
 .ret)
 .skip))
 (.seq
 (.reg [⟨(some 33), [], [.t 7], [], [], .cp, none⟩,
 ⟨(some 34), [], [.t 0], [], [], .cp, none⟩,
 ⟨(some 35), [], [.t 8], [], [], .cp, none⟩,
 ⟨(some 36), [], [.t 34, .t 35], [], [], .iaddr none 3, none⟩,
 ⟨(some 37), [], [.t 36], [], [], .load true 3, none⟩,
 ⟨(some 38), [], [.c (.fn (F n_net_Net_Send)), .t 33, .t 37], [], [18], .call 1 false, none⟩,
 ⟨(some 39), [], [.t 38, .c (.int .i64 0)], [], [], .bini .neq, none⟩] [33, 34, 35, 36, 37, 38] [])
 (.cond (.t 39)
 (.seq
 (.reg [⟨(some 6), [], [.c (.bool false)], [], [], .cp, none⟩] [] [])
 .ret)
 .skip))))
 (.reg [⟨(some 23), [], [.t 8], [], [], .cp, none⟩,
 ⟨(some 24), [], [.t 23, .c (.int .i64 1)], [], [], .bini .add, none⟩,
 ⟨(some 8), [24], [.t 24], [], [], .mv, none⟩] [19, 20, 21, 22, 23, 24, 25, 26, 27, 28, 29, 30, 31, 32, 33, 34, 35, 36, 37, 38, 39] []))))))
 (.seq
 (.reg [⟨(some 40), [], [.t 7], [], [], .cp, none⟩,
 ⟨(some 41), [], [.t 1], [], [], .cp, none⟩,
 ⟨(some 42), [], [.t 2], [], [], .cp, none⟩,
 ⟨(some 43), [], [.c (.fn (F n_net_Net_Spoil)), .t 40, .t 41, .t 42], [], [18], .call 1 false, none⟩,
 ⟨(some 9), [43], [.t 43], [], [], .mv, none⟩] [40, 41, 42, 43] [])
 (.seq
 (.reg [⟨(some 44), [], [.t 7], [], [], .cp, none⟩,
 ⟨(some 45), [], [.t 1], [], [], .cp, none⟩,
 ⟨(some 46), [], [.t 2], [], [], .cp, none⟩,
 ⟨(some 47), [], [.c (.fn (F n_net_Net_Spoil)), .t 44, .t 45, .t 46], [], [18], .call 1 false, none⟩,
 ⟨(some 10), [47], [.t 47], [], [], .mv, none⟩] [44, 45, 46, 47] [])
 (.seq
 (.seq
 (.reg [⟨(some 48), [], [.t 9], [], [], .cp, none⟩,
 ⟨(some 49), [], [.t 10], [], [], .cp, none⟩,
 ⟨(some 50), [], [.t 48, .t 49], [], [], .bini .neq, none⟩] [48, 49] [])
 (.cond (.t 50)
 (.seq
 (.reg [⟨(some 6), [], [.c (.bool false)], [], [], .cp, none⟩] [] [])
 .ret)
 .skip))
 (.seq
 (.seq
 (.reg [⟨(some 11), [], [.c (.int .i64 0)], [], [], .cp, none⟩] [] [])
 (.block 2
 (.loop
 (.seq
 (.seq
 (.reg [⟨(some 51), [], [.t 11], [], [], .cp, none⟩,
 ⟨(some 52), [], [.t 0], [], [], .cp, none⟩,
 ⟨(some 53), [], [.t 52], [], [], .len false, none⟩,
 ⟨(some 54), [], [.t 51, .t 53], [], [], .bini .lss, none⟩] [51, 52, 53] [])
 (.cond (.t 54)
 .skip
 (.exit 2)))
 (.seq
 (.block 3
 (.seq
 (.reg [⟨(some 58), [], [.t 7], [], [], .cp, none⟩,
 ⟨(some 59), [], [.c (.fn (F n_net_Net_Take)), .t 58, .c (.int .i64 0)], [], [18], .call 1 false, none⟩,
 ⟨(some 57), [], [.t 59], [], [], .cp, none⟩,
 ⟨(some 60), [], [.t 57], [], [], .extract 0, none⟩,
 ⟨(some 61), [], [.t 57], [], [], .extract 1, none⟩,
 ⟨(some 12), [], [], [], [12], .alloc [.val (.int .i64 0), .val (.int .i64 0), .val (.str [])], none⟩,
 ⟨none, [60], [.t 12, .t 60], [], [12], .store true 3, none⟩,
 ⟨(some 13), [61], [.t 61], [], [], .mv, none⟩] [57, 58, 59, 60, 61] [])
 (.seq
 (.reg [⟨(some 62), [], [.t 13], [], [], .cp, none⟩,
 ⟨(some 63), [], [.t 62], [], [], .not, none⟩,
 ⟨(some 64), [], [.t 63], [], [], .cp, none⟩,
 ⟨(some 65), [], [.t 12], [], [], .faddr 0, some (64, false)⟩,
 ⟨(some 66), [], [.t 65], [12], [], .load false 1, some (64, false)⟩,
 ⟨(some 67), [], [.t 0], [], [], .cp, some (64, false)⟩,
 ⟨(some 68), [], [.t 11], [], [], .cp, some (64, false)⟩,
 ⟨(some 69), [], [.t 67, .t 68], [], [], .iaddr none 3, some (64, false)⟩,
 ⟨(some 70), [], [.t 69], [], [], .faddr 0, some (64, false)⟩,
 ⟨(some 71), [], [.t 70], [], [], .load false 1, some (64, false)⟩,
 ⟨(some 72), [], [.t 66, .t 71], [], [], .bini .neq, some (64, false)⟩,
 ⟨(some 73), [], [.t 64, .c (.bool true), .t 72], [], [], .pick, none⟩,
 ⟨(some 74), [], [.t 73], [], [], .cp, none⟩,
 ⟨(some 75), [], [.t 12], [], [], .faddr 1, some (74, false)⟩,
 ⟨(some 76), [], [.t 75], [12], [], .load false 1, some (74, false)⟩,
 ⟨(some 77), [], [.t 0], [], [], .cp, some (74, false)⟩,
 ⟨(some 78), [], [.t 11], [], [], .cp, some (74, false)⟩,
 ⟨(some 79), [], [.t 77, .t 78], [], [], .iaddr none 3, some (74, false)⟩,
 ⟨(some 80), [], [.t 79], [], [], .faddr 1, some (74, false)⟩,
 ⟨(some 81), [], [.t 80], [], [], .load false 1, some (74, false)⟩,
 ⟨(some 82), [], [.t 76, .t 81], [], [], .bini .neq, some (74, false)⟩,
 ⟨(some 83), [], [.t 74, .c (.bool true), .t 82], [], [], .pick, none⟩,
 ⟨(some 84), [], [.t 83], [], [], .cp, none⟩,
 ⟨(some 85), [], [.t 12], [], [], .faddr 2, some (84, false)⟩,
 ⟨(some 86), [], [.t 85], [12], [], .load false 1, some (84, false)⟩,
 ⟨(some 87), [], [.t 0], [], [], .cp, some (84, false)⟩,
 ⟨(some 88), [], [.t 11], [], [], .cp, some (84, false)⟩,
 ⟨(some 89), [], [.t 87, .t 88], [], [], .iaddr none 3, some (84, false)⟩,
 ⟨(some 90), [], [.t 89], [], [], .faddr 2, some (84, false)⟩,
 ⟨(some 91), [], [.t 90], [], [], .load false 1, some (84, false)⟩,
 ⟨(some 92), [], [.t 86, .t 91], [], [], .bins .neq, some (84, false)⟩,
 ⟨(some 93), [], [.t 84, .c (.bool true), .t 92], [], [], .pick, none⟩] [62, 63, 64, 65, 66, 67, 68, 69, 70, 71, 72, 73, 74, 75, 76, 77, 78, 79, 80, 81, 82, 83, 84, 85, 86, 87, 88, 89, 90, 91, 92] [])
 (.cond (.t 93)
 (.seq
 (.reg [⟨(some 6), [], [.c (.bool false)], [], [], .cp, none⟩] [] [])
 .ret)
 .skip))))
 (.reg [⟨(some 55), [], [.t 11], [], [], .cp, none⟩,
 ⟨(some 56), [], [.t 55, .c (.int .i64 1)], [], [], .bini .add, none⟩,
 ⟨(some 11), [56], [.t 56], [], [], .mv, none⟩] [12, 13, 51, 52, 53, 54, 55, 56, 57, 58, 59, 60, 61, 62, 63, 64, 65, 66, 67, 68, 69, 70, 71, 72, 73, 74, 75, 76, 77, 78, 79, 80, 81, 82, 83, 84, 85, 86, 87, 88, 89, 90, 91, 92, 93] [12]))))))
 (.seq
 (.reg [⟨(some 94), [], [.t 7], [], [], .cp, none⟩,
 ⟨(some 95), [], [.c (.fn (F n_net_Net_Len)), .t 94], [], [18], .call 1 false, none⟩,
 ⟨(some 96), [], [.t 95, .c (.int .i64 0)], [], [], .bini .eql, none⟩,
 ⟨(some 97), [], [.t 96], [], [], .cp, none⟩,
 ⟨(some 98), [], [.c (.fn (F n_plaw31_awake))], [], [], .call 0 false, some (97, true)⟩,
 ⟨(some 99), [], [.t 97, .t 98, .c (.bool false)], [], [], .pick, none⟩,
 ⟨(some 6), [99], [.t 99], [], [], .mv, none⟩] [94, 95, 96, 97, 98, 99] [])
 .ret))))))))) }

def H_plaw31_NetPlays : Hints := [(1, { ops := [(0, { mw := [9], new := true })], kt := [9], kb := [] }),
 (2, { ops := [(0, { x := 5 }), (1, { x := 5 })], kt := [10, 11], kb := [] }),
 (4, { ops := [], kt := [12, 13, 14, 15, 16, 17, 18], kb := [] }),
 (5, { ops := [], kt := [12, 13, 14, 15, 16, 17, 18, 19, 20, 21, 22, 23, 24, 25, 26, 27, 28, 29, 30, 31, 32, 33, 34, 35, 36, 37, 38, 39, 40, 41, 42, 43, 44, 45, 46, 47, 48], kb := [] }),
 (6, { ops := [], kt := [22, 23, 24, 25, 26, 27, 28], kb := [] }),
 (7, { ops := [], kt := [30], kb := [] }),
 (8, { ops := [(6, { mw := [9, 11], nref := 2 }), (10, { mw := [9], nref := 1 }), (14, { mr := [11] })], kt := [31, 32, 33, 34, 35, 36, 37, 38, 39, 40, 41, 42, 43, 44, 45, 46, 47], kb := [] }),
 (11, { ops := [(4, { mr := [11] })], kt := [49, 50, 51, 52, 53, 54], kb := [] }),
 (12, { ops := [], kt := [7, 8, 49, 50, 51, 52, 53, 54, 55, 56, 57, 58, 59, 60, 61, 62, 63, 64, 65, 66, 67, 68, 69, 70, 71, 72, 73, 74, 75, 76, 77], kb := [7] }),
 (13, { ops := [(2, { mw := [9], nref := 1 }), (7, { mw := [7] })], kt := [58, 59, 60, 61, 62, 63], kb := [] }),
 (14, { ops := [(3, { mr := [7] }), (7, { mr := [11] })], kt := [64, 65, 66, 67, 68, 69, 70, 71, 72, 73, 74, 75, 76], kb := [] }),
 (16, { ops := [], kt := [78], kb := [] })]
def c_plaw31_NetPlays (F : Nat → FuncId) : AFun := { nparams := 1, ntmps := 79, results := [.tmp 2], body :=
 (.seq
 (.reg [⟨(some 2), [], [.c (.bool false)], [], [], .cp, none⟩] [] [])
 (.seq
 (.reg [⟨(some 9), [], [.c (.fn (F n_net_New))], [], [9], .call 0 true, none⟩,
 ⟨(some 3), [9], [.t 9], [], [], .mv, none⟩] [9] [])
 (.seq
 (.reg [⟨(some 10), [], [], [], [], .buildt [.sl 3 []] [], none⟩,
 ⟨(some 11), [], [.t 10], [], [11], .boxt, none⟩,
 ⟨(some 4), [11], [.t 11], [], [], .mv, none⟩] [10, 11] [])
 (.seq
 (.seq
 (.reg [⟨(some 5), [], [.c (.int .i64 0)], [], [], .cp, none⟩] [] [])
 (.block 0
 (.loop
 (.seq
 (.seq
 (.reg [⟨(some 12), [], [.t 5], [], [], .cp, none⟩,
 ⟨(some 13), [], [.t 0], [], [], .cp, none⟩,
 ⟨(some 14), [], [.t 13], [], [], .len false, none⟩,
 ⟨(some 15), [], [.t 12, .t 14], [], [], .bini .lss, none⟩,
 ⟨(some 16), [], [.t 15], [], [], .cp, none⟩,
 ⟨(some 17), [], [.t 5], [], [], .cp, some (16, true)⟩,
 ⟨(some 18), [], [.t 17, .c (.int .i64 250)], [], [], .bini .lss, some (16, true)⟩,
 ⟨(some 19), [], [.t 16, .t 18, .c (.bool false)], [], [], .pick, none⟩] [12, 13, 14, 15, 16, 17, 18] [])
 (.cond (.t 19)
 .skip
 (.exit 0)))
 (.seq
 (.block 1
 (.seq
 (.seq
 (.reg [⟨(some 22), [], [.t 0], [], [], .cp, none⟩,
 ⟨(some 23), [], [.t 5], [], [], .cp, none⟩,
 ⟨(some 24), [], [.t 22, .t 23], [], [], .iaddr none 6, none⟩,
 ⟨(some 25), [], [.t 24], [], [], .faddr 3, none⟩,
 ⟨(some 26), [], [.t 25], [], [], .faddr 2, none⟩,
 ⟨(some 27), [], [.t 26], [], [], .load false 1, none⟩,
 ⟨(some 28), [], [.t 27], [], [], .len true, none⟩,
 ⟨(some 29), [], [.t 28, .c (.int .i64 300)], [], [], .bini .gtr, none⟩] [22, 23, 24, 25, 26, 27, 28] [])
 (.cond (.t 29)
 (.seq
 (.reg [⟨(some 30), [], [.c (.fn (F n_plaw31_awake))], [], [], .call 0 false, none⟩,
 ⟨(some 2), [30], [.t 30], [], [], .mv, none⟩] [30] [])
 .ret)
 .skip))
 (.seq
 (.reg [⟨(some 31), [], [.t 3], [], [], .cp, none⟩,
 ⟨(some 32), [], [.t 4], [], [], .cp, none⟩,
 ⟨(some 33), [], [.t 0], [], [], .cp, none⟩,
 ⟨(some 34), [], [.t 5], [], [], .cp, none⟩,
 ⟨(some 35), [], [.t 33, .t 34], [], [], .iaddr none 6, none⟩,
 ⟨(some 36), [], [.t 35], [], [], .load true 6, none⟩,
 ⟨(some 37), [], [.c (.fn (F n_plaw31_does)), .t 31, .t 32, .t 36], [], [9, 11], .call 2 false, none⟩,
 ⟨(some 38), [], [.t 37], [], [], .not, none⟩,
 ⟨(some 39), [], [.t 38], [], [], .cp, none⟩,
 ⟨(some 40), [], [.t 3], [], [], .cp, some (39, false)⟩,
 ⟨(some 41), [], [.c (.fn (F n_net_Net_Len)), .t 40], [], [9], .call 1 false, some (39, false)⟩,
 ⟨(some 42), [], [.t 4], [], [], .cp, some (39, false)⟩,
 ⟨(some 43), [], [.t 42], [], [], .nilck, some (39, false)⟩,
 ⟨(some 44), [], [.t 43], [], [], .faddr 0, some (39, false)⟩,
 ⟨(some 45), [], [.t 44], [11], [], .load false 1, some (39, false)⟩,
 ⟨(some 46), [], [.t 45], [], [], .len false, some (39, false)⟩,
 ⟨(some 47), [], [.t 41, .t 46], [], [], .bini .neq, some (39, false)⟩,
 ⟨(some 48), [], [.t 39, .c (.bool true), .t 47], [], [], .pick, none⟩] [31, 32, 33, 34, 35, 36, 37, 38, 39, 40, 41, 42, 43, 44, 45, 46, 47] [])
 (.cond (.t 48)
 (.seq
 (.reg [⟨(some 2), [], [.c (.bool false)], [], [], .cp, none⟩] [] [])
 .ret)
 .skip))))
 (.reg [⟨(some 20), [], [.t 5], [], [], .cp, none⟩,
 ⟨(some 21), [], [.t 20, .c (.int .i64 1)], [], [], .bini .add, none⟩,
 ⟨(some 5), [21], [.t 21], [], [], .mv, none⟩] [12, 13, 14, 15, 16, 17, 18, 19, 20, 21, 22, 23, 24, 25, 26, 27, 28, 29, 30, 31, 32, 33, 34, 35, 36, 37, 38, 39, 40, 41, 42, 43, 44, 45, 46, 47, 48] []))))))
 (.seq
 (.seq
 (.reg [⟨(some 6), [], [.c (.int .i64 0)], [], [], .cp, none⟩] [] [])
 (.block 2
 (.loop
 (.seq
 (.seq
 (.reg [⟨(some 49), [], [.t 6], [], [], .cp, none⟩,
 ⟨(some 50), [], [.t 4], [], [], .cp, none⟩,
 ⟨(some 51), [], [.t 50], [], [], .nilck, none⟩,
 ⟨(some 52), [], [.t 51], [], [], .faddr 0, none⟩,
 ⟨(some 53), [], [.t 52], [11], [], .load false 1, none⟩,
 ⟨(some 54), [], [.t 53], [], [], .len false, none⟩,
 ⟨(some 55), [], [.t 49, .t 54], [], [], .bini .lss, none⟩] [49, 50, 51, 52, 53, 54] [])
 (.cond (.t 55)
 .skip
 (.exit 2)))
 (.seq
 (.block 3
 (.seq
 (.reg [⟨(some 59), [], [.t 3], [], [], .cp, none⟩,
 ⟨(some 60), [], [.t 6], [], [], .cp, none⟩,
 ⟨(some 61), [], [.c (.fn (F n_net_Net_Look)), .t 59, .t 60], [], [9], .call 1 false, none⟩,
 ⟨(some 58), [], [.t 61], [], [], .cp, none⟩,
 ⟨(some 62), [], [.t 58], [], [], .extract 0, none⟩,
 ⟨(some 63), [], [.t 58], [], [], .extract 1, none⟩,
 ⟨(some 7), [], [], [], [7], .alloc [.val (.int .i64 0), .val (.int .i64 0), .val (.str [])], none⟩,
 ⟨none, [62], [.t 7, .t 62], [], [7], .store true 3, none⟩,
 ⟨(some 8), [63], [.t 63], [], [], .mv, none⟩] [58, 59, 60, 61, 62, 63] [])
 (.seq
 (.reg [⟨(some 64), [], [.t 8], [], [], .cp, none⟩,
 ⟨(some 65), [], [.t 64], [], [], .not, none⟩,
 ⟨(some 66), [], [.t 65], [], [], .cp, none⟩,
 ⟨(some 67), [], [.t 7], [7], [], .load true 3, some (66, false)⟩,
 ⟨(some 68), [], [.t 4], [], [], .cp, some (66, false)⟩,
 ⟨(some 69), [], [.t 68], [], [], .nilck, some (66, false)⟩,
 ⟨(some 70), [], [.t 69], [], [], .faddr 0, some (66, false)⟩,
 ⟨(some 71), [], [.t 70], [11], [], .load false 1, some (66, false)⟩,
 ⟨(some 72), [], [.t 6], [], [], .cp, some (66, false)⟩,
 ⟨(some 73), [], [.t 71, .t 72], [], [], .iaddr none 3, some (66, false)⟩,
 ⟨(some 74), [], [.t 73], [], [], .load true 3, some (66, false)⟩,
 ⟨(some 75), [], [.c (.fn (F n_plaw31_same)), .t 67, .t 74], [], [], .call 0 false, some (66, false)⟩,
 ⟨(some 76), [], [.t 75], [], [], .not, some (66, false)⟩,
 ⟨(some 77), [], [.t 66, .c (.bool true), .t 76], [], [], .pick, none⟩] [64, 65, 66, 67, 68, 69, 70, 71, 72, 73, 74, 75, 76] [])
 (.cond (.t 77)
 (.seq
 (.reg [⟨(some 2), [], [.c (.bool false)], [], [], .cp, none⟩] [] [])
 .ret)
 .skip))))
 (.reg [⟨(some 56), [], [.t 6], [], [], .cp, none⟩,
 ⟨(some 57), [], [.t 56, .c (.int .i64 1)], [], [], .bini .add, none⟩,
 ⟨(some 6), [57], [.t 57], [], [], .mv, none⟩] [7, 8, 49, 50, 51, 52, 53, 54, 55, 56, 57, 58, 59, 60, 61, 62, 63, 64, 65, 66, 67, 68, 69, 70, 71, 72, 73, 74, 75, 76, 77] [7]))))))
 (.seq
 (.reg [⟨(some 78), [], [.c (.fn (F n_plaw31_awake))], [], [], .call 0 false, none⟩,
 ⟨(some 2), [78], [.t 78], [], [], .mv, none⟩] [78] [])
 .ret)))))) }

def H_plaw31_NetNone : Hints := [(1, { ops := [(1, { mr := [3] })], kt := [14, 15, 16], kb := [] }),
 (2, { ops := [], kt := [18], kb := [] }),
 (4, { ops := [(7, { mw := [8] })], kt := [8, 19, 20, 21, 22, 23, 24], kb := [] }),
 (5, { ops := [(7, { mw := [10] })], kt := [10, 25, 26, 27, 28, 29, 30], kb := [] }),
 (6, { ops := [(6, { mr := [3] })], kt := [31, 32, 33, 34, 35, 36, 37, 38, 39, 40, 41, 42, 43, 44, 45, 46, 47, 48, 49, 50, 51, 52, 53, 54, 55, 56, 57], kb := [] }),
 (8, { ops := [(0, { mw := [59], new := true })], kt := [59], kb := [] }),
 (10, { ops := [], kt := [60], kb := [] }),
 (11, { ops := [], kt := [60, 61, 62, 63, 64, 65, 66, 67], kb := [] }),
 (12, { ops := [(1, { mr := [3] }), (2, { mw := [59], nref := 1 })], kt := [64, 65, 66], kb := [] }),
 (14, { ops := [(1, { mr := [3] }), (2, { mw := [59], nref := 1 }), (6, { mw := [59], nref := 1 }), (11, { mw := [59], nref := 1 })], kt := [68, 69, 70, 71, 72, 73, 74, 75, 76, 77, 78, 79, 80, 81, 82, 83, 84], kb := [] })]
def c_plaw31_NetNone (F : Nat → FuncId) : AFun := { nparams := 3, ntmps := 85, results := [.tmp 6], body :=
 (.seq
 (.reg [⟨(some 3), [], [.t 0], [], [3], .box, none⟩,
 ⟨(some 6), [], [.c (.bool false)], [], [], .cp, none⟩] [] [])
 (.seq
 (.seq
 (.reg [⟨(some 14), [], [.t 3], [], [], .faddr 2, none⟩,
 ⟨(some 15), [], [.t 14], [3], [], .load false 1, none⟩,
 ⟨(some 16), [], [.t 15], [], [], .len true, none⟩,
 ⟨(some 17), [], [.t 16, .c (.int .i64 300)], [], [], .bini .gtr, none⟩] [14, 15, 16] [])
 (.cond (.t 17)
 (.seq
 (.reg [⟨(some 18), [], [.c (.fn (F n_plaw31_awake))], [], [], .call 0 false, none⟩,
 ⟨(some 6), [18], [.t 18], [], [], .mv, none⟩] [18] [])
 .ret)
 .skip))
 (.seq
 (.reg [⟨(some 7), [], [.c (.nilp)], [], [], .cp, none⟩] [] [])
 (.seq
 (.reg [⟨(some 20), [], [.t 7], [], [], .cp, none⟩,
 ⟨(some 21), [], [.t 1], [], [], .cp, none⟩,
 ⟨(some 22), [], [.c (.fn (F n_net_Net_Take)), .t 20, .t 21], [], [], .call 0 false, none⟩,
 ⟨(some 19), [], [.t 22], [], [], .cp, none⟩,
 ⟨(some 23), [], [.t 19], [], [], .extract 0, none⟩,
 ⟨(some 24), [], [.t 19], [], [], .extract 1, none⟩,
 ⟨(some 8), [], [], [], [8], .alloc [.val (.int .i64 0), .val (.int .i64 0), .val (.str [])], none⟩,
 ⟨none, [23], [.t 8, .t 23], [], [8], .store true 3, none⟩,
 ⟨(some 9), [24], [.t 24], [], [], .mv, none⟩] [8, 19, 20, 21, 22, 23, 24] [])
 (.seq
 (.reg [⟨(some 26), [], [.t 7], [], [], .cp, none⟩,
 ⟨(some 27), [], [.t 1], [], [], .cp, none⟩,
 ⟨(some 28), [], [.c (.fn (F n_net_Net_Look)), .t 26, .t 27], [], [], .call 0 false, none⟩,
 ⟨(some 25), [], [.t 28], [], [], .cp, none⟩,
 ⟨(some 29), [], [.t 25], [], [], .extract 0, none⟩,
 ⟨(some 30), [], [.t 25], [], [], .extract 1, none⟩,
 ⟨(some 10), [], [], [], [10], .alloc [.val (.int .i64 0), .val (.int .i64 0), .val (.str [])], none⟩,
 ⟨none, [29], [.t 10, .t 29], [], [10], .store true 3, none⟩,
 ⟨(some 11), [30], [.t 30], [], [], .mv, none⟩] [10, 25, 26, 27, 28, 29, 30] [])
 (.seq
 (.seq
 (.reg [⟨(some 31), [], [.t 9], [], [], .cp, none⟩,
 ⟨(some 32), [], [.t 31], [], [], .cp, none⟩,
 ⟨(some 33), [], [.t 11], [], [], .cp, some (32, false)⟩,
 ⟨(some 34), [], [.t 32, .c (.bool true), .t 33], [], [], .pick, none⟩,
 ⟨(some 35), [], [.t 34], [], [], .cp, none⟩,
 ⟨(some 36), [], [.t 7], [], [], .cp, some (35, false)⟩,
 ⟨(some 37), [], [.t 3], [3], [], .load true 3, some (35, false)⟩,
 ⟨(some 38), [], [.c (.fn (F n_net_Net_Send)), .t 36, .t 37], [], [], .call 0 false, some (35, false)⟩,
 ⟨(some 39), [], [.t 38, .c (.int .i64 1)], [], [], .bini .neq, some (35, false)⟩,
 ⟨(some 40), [], [.t 35, .c (.bool true), .t 39], [], [], .pick, none⟩,
 ⟨(some 41), [], [.t 40], [], [], .cp, none⟩,
 ⟨(some 42), [], [.t 7], [], [], .cp, some (41, false)⟩,
 ⟨(some 43), [], [.t 1], [], [], .cp, some (41, false)⟩,
 ⟨(some 44), [], [.c (.fn (F n_net_Net_Twice)), .t 42, .t 43], [], [], .call 0 false, some (41, false)⟩,
 ⟨(some 45), [], [.t 44, .c (.int .i64 1)], [], [], .bini .neq, some (41, false)⟩,
 ⟨(some 46), [], [.t 41, .c (.bool true), .t 45], [], [], .pick, none⟩,
 ⟨(some 47), [], [.t 46], [], [], .cp, none⟩,
 ⟨(some 48), [], [.t 7], [], [], .cp, some (47, false)⟩,
 ⟨(some 49), [], [.t 1], [], [], .cp, some (47, false)⟩,
 ⟨(some 50), [], [.t 2], [], [], .cp, some (47, false)⟩,
 ⟨(some 51), [], [.c (.fn (F n_net_Net_Spoil)), .t 48, .t 49, .t 50], [], [], .call 0 false, some (47, false)⟩,
 ⟨(some 52), [], [.t 51, .c (.int .i64 1)], [], [], .bini .neq, some (47, false)⟩,
 ⟨(some 53), [], [.t 47, .c (.bool true), .t 52], [], [], .pick, none⟩,
 ⟨(some 54), [], [.t 53], [], [], .cp, none⟩,
 ⟨(some 55), [], [.t 7], [], [], .cp, some (54, false)⟩,
 ⟨(some 56), [], [.c (.fn (F n_net_Net_Len)), .t 55], [], [], .call 0 false, some (54, false)⟩,
 ⟨(some 57), [], [.t 56, .c (.int .i64 0)], [], [], .bini .neq, some (54, false)⟩,
 ⟨(some 58), [], [.t 54, .c (.bool true), .t 57], [], [], .pick, none⟩] [31, 32, 33, 34, 35, 36, 37, 38, 39, 40, 41, 42, 43, 44, 45, 46, 47, 48, 49, 50, 51, 52, 53, 54, 55, 56, 57] [])
 (.cond (.t 58)
 (.seq
 (.reg [⟨(some 6), [], [.c (.bool false)], [], [], .cp, none⟩] [] [])
 .ret)
 .skip))
 (.seq
 (.reg [⟨(some 59), [], [.c (.fn (F n_net_New))], [], [59], .call 0 true, none⟩,
 ⟨(some 12), [59], [.t 59], [], [], .mv, none⟩] [59] [])
 (.seq
 (.seq
 (.reg [⟨(some 13), [], [.c (.int .i64 0)], [], [], .cp, none⟩] [] [])
 (.block 0
 (.loop
 (.seq
 (.seq
 (.reg [⟨(some 60), [], [.t 13], [], [], .cp, none⟩,
 ⟨(some 61), [], [.t 60, .c (.int .i64 200)], [], [], .bini .lss, none⟩] [60] [])
 (.cond (.t 61)
 .skip
 (.exit 0)))
 (.seq
 (.block 1
 (.seq
 (.reg [⟨(some 64), [], [.t 12], [], [], .cp, none⟩,
 ⟨(some 65), [], [.t 3], [3], [], .load true 3, none⟩,
 ⟨(some 66), [], [.c (.fn (F n_net_Net_Send)), .t 64, .t 65], [], [59], .call 1 false, none⟩,
 ⟨(some 67), [], [.t 66, .c (.int .i64 0)], [], [], .bini .neq, none⟩] [64, 65, 66] [])
 (.cond (.t 67)
 (.seq
 (.reg [⟨(some 6), [], [.c (.bool false)], [], [], .cp, none⟩] [] [])
 .ret)
 .skip)))
 (.reg [⟨(some 62), [], [.t 13], [], [], .cp, none⟩,
 ⟨(some 63), [], [.t 62, .c (.int .i64 1)], [], [], .bini .add, none⟩,
 ⟨(some 13), [63], [.t 63], [], [], .mv, none⟩] [60, 61, 62, 63, 64, 65, 66, 67] []))))))
 (.seq
 (.reg [⟨(some 68), [], [.t 12], [], [], .cp, none⟩,
 ⟨(some 69), [], [.t 3], [3], [], .load true 3, none⟩,
 ⟨(some 70), [], [.c (.fn (F n_net_Net_Send)), .t 68, .t 69], [], [59], .call 1 false, none⟩,
 ⟨(some 71), [], [.t 70, .c (.int .i64 7)], [], [], .bini .eql, none⟩,
 ⟨(some 72), [], [.t 71], [], [], .cp, none⟩,
 ⟨(some 73), [], [.t 12], [], [], .cp, some (72, true)⟩,
 ⟨(some 74), [], [.c (.fn (F n_net_Net_Twice)), .t 73, .c (.int .i64 3)], [], [59], .call 1 false, some (72, true)⟩,
 ⟨(some 75), [], [.t 74, .c (.int .i64 7)], [], [], .bini .eql, some (72, true)⟩,
 ⟨(some 76), [], [.t 72, .t 75, .c (.bool false)], [], [], .pick, none⟩,
 ⟨(some 77), [], [.t 76], [], [], .cp, none⟩,
 ⟨(some 78), [], [.t 12], [], [], .cp, some (77, true)⟩,
 ⟨(some 79), [], [.c (.fn (F n_net_Net_Len)), .t 78], [], [59], .call 1 false, some (77, true)⟩,
 ⟨(some 80), [], [.t 79, .c (.int .i64 200)], [], [], .bini .eql, some (77, true)⟩,
 ⟨(some 81), [], [.t 77, .t 80, .c (.bool false)], [], [], .pick, none⟩,
 ⟨(some 82), [], [.t 81], [], [], .cp, none⟩,
 ⟨(some 83), [], [.c (.fn (F n_plaw31_awake))], [], [], .call 0 false, some (82, true)⟩,
 ⟨(some 84), [], [.t 82, .t 83, .c (.bool false)], [], [], .pick, none⟩,
 ⟨(some 6), [84], [.t 84], [], [], .mv, none⟩] [68, 69, 70, 71, 72, 73, 74, 75, 76, 77, 78, 79, 80, 81, 82, 83, 84] [])
 .ret))))))))) }

def H_plaw31_awake : Hints := [(1, { ops := [(0, { mw := [9], new := true })], kt := [9], kb := [] }),
 (2, { ops := [(2, { mw := [9], nref := 1 }), (5, { mw := [9], nref := 1 }), (8, { mw := [9], nref := 1 })], kt := [10, 11, 12, 13, 14, 15, 16, 17, 18], kb := [] }),
 (3, { ops := [(1, { mw := [9], nref := 1 }), (6, { mw := [5] })], kt := [19, 20, 21, 22, 23], kb := [] }),
 (4, { ops := [(1, { mw := [9], nref := 1 }), (6, { mw := [7] })], kt := [24, 25, 26, 27, 28], kb := [] }),
 (5, { ops := [(17, { mr := [5] }), (25, { mr := [7] }), (30, { mw := [9], nref := 1 })], kt := [29, 30, 31, 32, 33, 34, 35, 36, 37, 38, 39, 40, 41, 42, 43, 44, 45, 46, 47, 48, 49, 50, 51, 52, 53, 54, 55, 56, 57, 58, 59, 60, 61], kb := [] })]
def c_plaw31_awake (F : Nat → FuncId) : AFun := { nparams := 0, ntmps := 62, results := [.tmp 0], body :=
 (.seq
 (.reg [⟨(some 0), [], [.c (.bool false)], [], [], .cp, none⟩] [] [])
 (.seq
 (.reg [⟨(some 9), [], [.c (.fn (F n_net_New))], [], [9], .call 0 true, none⟩,
 ⟨(some 1), [9], [.t 9], [], [], .mv, none⟩] [9] [])
 (.seq
 (.reg [⟨(some 10), [], [.t 1], [], [], .cp, none⟩,
 ⟨(some 11), [], [.c (.str [97])], [], [], .build [.int .i64 0, .int .i64 0, .str []] [(2, 1)], none⟩,
 ⟨(some 12), [], [.c (.fn (F n_net_Net_Send)), .t 10, .t 11], [], [9], .call 1 false, none⟩,
 ⟨(some 13), [], [.t 1], [], [], .cp, none⟩,
 ⟨(some 14), [], [.c (.str [98])], [], [], .build [.int .i64 0, .int .i64 0, .str []] [(2, 1)], none⟩,
 ⟨(some 15), [], [.c (.fn (F n_net_Net_Send)), .t 13, .t 14], [], [9], .call 1 false, none⟩,
 ⟨(some 16), [], [.t 1], [], [], .cp, none⟩,
 ⟨(some 17), [], [.c (.str [99])], [], [], .build [.int .i64 0, .int .i64 0, .str []] [(2, 1)], none⟩,
 ⟨(some 18), [], [.c (.fn (F n_net_Net_Send)), .t 16, .t 17], [], [9], .call 1 false, none⟩,
 ⟨(some 2), [12], [.t 12], [], [], .mv, none⟩,
 ⟨(some 3), [15], [.t 15], [], [], .mv, none⟩,
 ⟨(some 4), [18], [.t 18], [], [], .mv, none⟩] [10, 11, 12, 13, 14, 15, 16, 17, 18] [])
 (.seq
 (.reg [⟨(some 20), [], [.t 1], [], [], .cp, none⟩,
 ⟨(some 21), [], [.c (.fn (F n_net_Net_Take)), .t 20, .c (.int .i64 1)], [], [9], .call 1 false, none⟩,
 ⟨(some 19), [], [.t 21], [], [], .cp, none⟩,
 ⟨(some 22), [], [.t 19], [], [], .extract 0, none⟩,
 ⟨(some 23), [], [.t 19], [], [], .extract 1, none⟩,
 ⟨(some 5), [], [], [], [5], .alloc [.val (.int .i64 0), .val (.int .i64 0), .val (.str [])], none⟩,
 ⟨none, [22], [.t 5, .t 22], [], [5], .store true 3, none⟩,
 ⟨(some 6), [23], [.t 23], [], [], .mv, none⟩] [19, 20, 21, 22, 23] [])
 (.seq
 (.reg [⟨(some 25), [], [.t 1], [], [], .cp, none⟩,
 ⟨(some 26), [], [.c (.fn (F n_net_Net_Look)), .t 25, .c (.int .i64 1)], [], [9], .call 1 false, none⟩,
 ⟨(some 24), [], [.t 26], [], [], .cp, none⟩,
 ⟨(some 27), [], [.t 24], [], [], .extract 0, none⟩,
 ⟨(some 28), [], [.t 24], [], [], .extract 1, none⟩,
 ⟨(some 7), [], [], [], [7], .alloc [.val (.int .i64 0), .val (.int .i64 0), .val (.str [])], none⟩,
 ⟨none, [27], [.t 7, .t 27], [], [7], .store true 3, none⟩,
 ⟨(some 8), [28], [.t 28], [], [], .mv, none⟩] [24, 25, 26, 27, 28] [])
 (.seq
 (.reg [⟨(some 29), [], [.t 2], [], [], .cp, none⟩,
 ⟨(some 30), [], [.t 29, .c (.int .i64 0)], [], [], .bini .eql, none⟩,
 ⟨(some 31), [], [.t 30], [], [], .cp, none⟩,
 ⟨(some 32), [], [.t 3], [], [], .cp, some (31, true)⟩,
 ⟨(some 33), [], [.t 2], [], [], .cp, some (31, true)⟩,
 ⟨(some 34), [], [.t 32, .t 33], [], [], .bini .eql, some (31, true)⟩,
 ⟨(some 35), [], [.t 31, .t 34, .c (.bool false)], [], [], .pick, none⟩,
 ⟨(some 36), [], [.t 35], [], [], .cp, none⟩,
 ⟨(some 37), [], [.t 4], [], [], .cp, some (36, true)⟩,
 ⟨(some 38), [], [.t 2], [], [], .cp, some (36, true)⟩,
 ⟨(some 39), [], [.t 37, .t 38], [], [], .bini .eql, some (36, true)⟩,
 ⟨(some 40), [], [.t 36, .t 39, .c (.bool false)], [], [], .pick, none⟩,
 ⟨(some 41), [], [.t 40], [], [], .cp, none⟩,
 ⟨(some 42), [], [.t 6], [], [], .cp, some (41, true)⟩,
 ⟨(some 43), [], [.t 41, .t 42, .c (.bool false)], [], [], .pick, none⟩,
 ⟨(some 44), [], [.t 43], [], [], .cp, none⟩,
 ⟨(some 45), [], [.t 5], [], [], .faddr 2, some (44, true)⟩,
 ⟨(some 46), [], [.t 45], [5], [], .load false 1, some (44, true)⟩,
 ⟨(some 47), [], [.t 46, .c (.str [98])], [], [], .bins .eql, some (44, true)⟩,
 ⟨(some 48), [], [.t 44, .t 47, .c (.bool false)], [], [], .pick, none⟩,
 ⟨(some 49), [], [.t 48], [], [], .cp, none⟩,
 ⟨(some 50), [], [.t 8], [], [], .cp, some (49, true)⟩,
 ⟨(some 51), [], [.t 49, .t 50, .c (.bool false)], [], [], .pick, none⟩,
 ⟨(some 52), [], [.t 51], [], [], .cp, none⟩,
 ⟨(some 53), [], [.t 7], [], [], .faddr 2, some (52, true)⟩,
 ⟨(some 54), [], [.t 53], [7], [], .load false 1, some (52, true)⟩,
 ⟨(some 55), [], [.t 54, .c (.str [99])], [], [], .bins .eql, some (52, true)⟩,
 ⟨(some 56), [], [.t 52, .t 55, .c (.bool false)], [], [], .pick, none⟩,
 ⟨(some 57), [], [.t 56], [], [], .cp, none⟩,
 ⟨(some 58), [], [.t 1], [], [], .cp, some (57, true)⟩,
 ⟨(some 59), [], [.c (.fn (F n_net_Net_Len)), .t 58], [], [9], .call 1 false, some (57, true)⟩,
 ⟨(some 60), [], [.t 59, .c (.int .i64 2)], [], [], .bini .eql, some (57, true)⟩,
 ⟨(some 61), [], [.t 57, .t 60, .c (.bool false)], [], [], .pick, none⟩,
 ⟨(some 0), [61], [.t 61], [], [], .mv, none⟩] [29, 30, 31, 32, 33, 34, 35, 36, 37, 38, 39, 40, 41, 42, 43, 44, 45, 46, 47, 48, 49, 50, 51, 52, 53, 54, 55, 56, 57, 58, 59, 60, 61] [])
 .ret)))))) }

def H_net_New : Hints := [(1, { ops := [(0, { x := 5 }), (1, { x := 5 })], kt := [1, 2], kb := [] })]
def c_net_New (F : Nat → FuncId) : AFun := { nparams := 0, ntmps := 3, results := [.tmp 0], body :=
 (.seq
 (.reg [⟨(some 0), [], [.c (.nilp)], [], [], .cp, none⟩] [] [])
 (.seq
 (.reg [⟨(some 1), [], [], [], [], .buildt [.sl 3 []] [], none⟩,
 ⟨(some 2), [], [.t 1], [], [2], .boxt, none⟩,
 ⟨(some 0), [2], [.t 2], [], [], .mv, none⟩] [1, 2] [])
 .ret)) }

def H_net_Net_Send : Hints := [(1, { ops := [], kt := [6, 7], kb := [] }),
 (3, { ops := [(3, { mr := [0] })], kt := [9, 10, 11, 12, 13, 14], kb := [] }),
 (5, { ops := [(4, { take := true, mw := [0] }), (5, { mr := [3] }), (10, { mw := [0] })], kt := [15, 16, 17, 18, 19, 20, 21, 22, 23, 24], kb := [] })]
def c_net_Net_Send (F : Nat → FuncId) : AFun := { nparams := 2, ntmps := 25, results := [.tmp 4], body :=
 (.seq
 (.reg [⟨(some 3), [], [.t 1], [], [3], .box, none⟩,
 ⟨(some 4), [], [.c (.int .i64 0)], [], [], .cp, none⟩] [] [])
 (.seq
 (.block 0
 (.seq
 (.reg [⟨(some 6), [], [.t 0], [], [], .cp, none⟩,
 ⟨(some 7), [], [.t 6, .c (.nilp)], [], [], .eqn false, none⟩,
 ⟨(some 5), [7], [.t 7], [], [], .mv, none⟩] [6, 7] [])
 (.cond (.t 5)
 (.seq
 (.reg [⟨(some 4), [], [.c (.int .i64 1)], [], [], .cp, none⟩] [] [])
 .ret)
 (.seq
 (.reg [⟨(some 9), [], [.t 0], [], [], .cp, none⟩,
 ⟨(some 10), [], [.t 9], [], [], .nilck, none⟩,
 ⟨(some 11), [], [.t 10], [], [], .faddr 0, none⟩,
 ⟨(some 12), [], [.t 11], [0], [], .load false 1, none⟩,
 ⟨(some 13), [], [.t 12], [], [], .len false, none⟩,
 ⟨(some 14), [], [.t 13, .c (.int .i64 200)], [], [], .bini .geq, none⟩,
 ⟨(some 8), [14], [.t 14], [], [], .mv, none⟩] [9, 10, 11, 12, 13, 14] [])
 (.cond (.t 8)
 (.seq
 (.reg [⟨(some 4), [], [.c (.int .i64 7)], [], [], .cp, none⟩] [] [])
 .ret)
 .skip)))))
 (.seq
 (.reg [⟨(some 15), [], [.t 0], [], [], .cp, none⟩,
 ⟨(some 16), [], [.t 0], [], [], .cp, none⟩,
 ⟨(some 17), [], [.t 16], [], [], .nilck, none⟩,
 ⟨(some 18), [], [.t 17], [], [], .faddr 0, none⟩,
 ⟨(some 19), [], [.t 18], [], [0], .ltake, none⟩,
 ⟨(some 20), [], [.t 3], [3], [], .load true 3, none⟩,
 ⟨(some 21), [], [.t 20], [], [], .bslice 3 [.int .i64 0, .int .i64 0, .str []] [(0, 3)], none⟩,
 ⟨(some 22), [19], [.t 19, .t 21], [], [], .append 3 32, none⟩,
 ⟨(some 23), [], [.t 15], [], [], .nilck, none⟩,
 ⟨(some 24), [], [.t 23], [], [], .faddr 0, none⟩,
 ⟨none, [22], [.t 24, .t 22], [], [0], .store false 1, none⟩] [15, 16, 17, 18, 19, 20, 21, 22, 23, 24] [])
 (.seq
 (.reg [⟨(some 4), [], [.c (.int .i64 0)], [], [], .cp, none⟩] [] [])
 .ret)))) }

def H_net_Net_Send__nil : Hints := [(1, { ops := [], kt := [6, 7], kb := [] }),
 (3, { ops := [], kt := [9, 10, 11, 12, 13, 14], kb := [] }),
 (5, { ops := [(5, { mr := [3] })], kt := [15, 16, 17, 18, 19, 20, 21, 22, 23, 24], kb := [] })]
def c_net_Net_Send__nil (F : Nat → FuncId) : AFun := { nparams := 2, ntmps := 25, results := [.tmp 4], body :=
 (.seq
 (.reg [⟨(some 3), [], [.t 1], [], [3], .box, none⟩,
 ⟨(some 4), [], [.c (.int .i64 0)], [], [], .cp, none⟩] [] [])
 (.seq
 (.block 0
 (.seq
 (.reg [⟨(some 6), [], [.t 0], [], [], .cp, none⟩,
 ⟨(some 7), [], [.t 6, .c (.nilp)], [], [], .eqn false, none⟩,
 ⟨(some 5), [7], [.t 7], [], [], .mv, none⟩] [6, 7] [])
 (.cond (.t 5)
 (.seq
 (.reg [⟨(some 4), [], [.c (.int .i64 1)], [], [], .cp, none⟩] [] [])
 .ret)
 (.seq
 (.reg [⟨(some 9), [], [.t 0], [], [], .cp, none⟩,
 ⟨(some 10), [], [.t 9], [], [], .nilck, none⟩,
 ⟨(some 11), [], [.t 10], [], [], .faddr 0, none⟩,
 ⟨(some 12), [], [.t 11], [], [], .load false 1, none⟩,
 ⟨(some 13), [], [.t 12], [], [], .len false, none⟩,
 ⟨(some 14), [], [.t 13, .c (.int .i64 200)], [], [], .bini .geq, none⟩,
 ⟨(some 8), [14], [.t 14], [], [], .mv, none⟩] [9, 10, 11, 12, 13, 14] [])
 (.cond (.t 8)
 (.seq
 (.reg [⟨(some 4), [], [.c (.int .i64 7)], [], [], .cp, none⟩] [] [])
 .ret)
 .skip)))))
 (.seq
 (.reg [⟨(some 15), [], [.t 0], [], [], .cp, none⟩,
 ⟨(some 16), [], [.t 0], [], [], .cp, none⟩,
 ⟨(some 17), [], [.t 16], [], [], .nilck, none⟩,
 ⟨(some 18), [], [.t 17], [], [], .faddr 0, none⟩,
 ⟨(some 19), [], [.t 18], [], [], .load false 1, none⟩,
 ⟨(some 20), [], [.t 3], [3], [], .load true 3, none⟩,
 ⟨(some 21), [], [.t 20], [], [], .bslice 3 [.int .i64 0, .int .i64 0, .str []] [(0, 3)], none⟩,
 ⟨(some 22), [19], [.t 19, .t 21], [], [], .append 3 32, none⟩,
 ⟨(some 23), [], [.t 15], [], [], .nilck, none⟩,
 ⟨(some 24), [], [.t 23], [], [], .faddr 0, none⟩,
 ⟨none, [22], [.t 24, .t 22], [], [], .store false 1, none⟩] [15, 16, 17, 18, 19, 20, 21, 22, 23, 24] [])
 (.seq
 (.reg [⟨(some 4), [], [.c (.int .i64 0)], [], [], .cp, none⟩] [] [])
 .ret)))) }

def H_net_Net_Len : Hints := [(1, { ops := [], kt := [3], kb := [] }),
 (3, { ops := [(3, { mr := [0] })], kt := [5, 6, 7, 8, 9], kb := [] })]
def c_net_Net_Len (F : Nat → FuncId) : AFun := { nparams := 1, ntmps := 10, results := [.tmp 2], body :=
 (.seq
 (.reg [⟨(some 2), [], [.c (.int .i64 0)], [], [], .cp, none⟩] [] [])
 (.seq
 (.seq
 (.reg [⟨(some 3), [], [.t 0], [], [], .cp, none⟩,
 ⟨(some 4), [], [.t 3, .c (.nilp)], [], [], .eqn false, none⟩] [3] [])
 (.cond (.t 4)
 (.seq
 (.reg [⟨(some 2), [], [.c (.int .i64 0)], [], [], .cp, none⟩] [] [])
 .ret)
 .skip))
 (.seq
 (.reg [⟨(some 5), [], [.t 0], [], [], .cp, none⟩,
 ⟨(some 6), [], [.t 5], [], [], .nilck, none⟩,
 ⟨(some 7), [], [.t 6], [], [], .faddr 0, none⟩,
 ⟨(some 8), [], [.t 7], [0], [], .load false 1, none⟩,
 ⟨(some 9), [], [.t 8], [], [], .len false, none⟩,
 ⟨(some 2), [9], [.t 9], [], [], .mv, none⟩] [5, 6, 7, 8, 9] [])
 .ret))) }

def H_net_Net_Len__nil : Hints := [(1, { ops := [], kt := [3], kb := [] }),
 (3, { ops := [], kt := [5, 6, 7, 8, 9], kb := [] })]
def c_net_Net_Len__nil (F : Nat → FuncId) : AFun := { nparams := 1, ntmps := 10, results := [.tmp 2], body :=
 (.seq
 (.reg [⟨(some 2), [], [.c (.int .i64 0)], [], [], .cp, none⟩] [] [])
 (.seq
 (.seq
 (.reg [⟨(some 3), [], [.t 0], [], [], .cp, none⟩,
 ⟨(some 4), [], [.t 3, .c (.nilp)], [], [], .eqn false, none⟩] [3] [])
 (.cond (.t 4)
 (.seq
 (.reg [⟨(some 2), [], [.c (.int .i64 0)], [], [], .cp, none⟩] [] [])
 .ret)
 .skip))
 (.seq
 (.reg [⟨(some 5), [], [.t 0], [], [], .cp, none⟩,
 ⟨(some 6), [], [.t 5], [], [], .nilck, none⟩,
 ⟨(some 7), [], [.t 6], [], [], .faddr 0, none⟩,
 ⟨(some 8), [], [.t 7], [], [], .load false 1, none⟩,
 ⟨(some 9), [], [.t 8], [], [], .len false, none⟩,
 ⟨(some 2), [9], [.t 9], [], [], .mv, none⟩] [5, 6, 7, 8, 9] [])
 .ret))) }

def H_plaw31_does : Hints := [(1, { ops := [(1, { mr := [5] })], kt := [13], kb := [] }),
 (3, { ops := [], kt := [16], kb := [] }),
 (4, { ops := [], kt := [17], kb := [] }),
 (5, { ops := [], kt := [18], kb := [] }),
 (6, { ops := [(2, { mr := [5] }), (3, { mw := [0], nref := 1 }), (7, { mr := [5] }), (10, { mr := [5] }), (13, { mr := [5] }), (15, { mw := [1], nref := 1 })], kt := [19, 20, 21, 22, 23, 24, 25, 26, 27, 28, 29, 30, 31, 32, 33, 34, 35], kb := [] }),
 (7, { ops := [], kt := [37], kb := [] }),
 (8, { ops := [(2, { mr := [5] }), (3, { mw := [0], nref := 1 }), (8, { mw := [7] })], kt := [38, 39, 40, 41, 42, 43, 44], kb := [] }),
 (9, { ops := [(2, { mr := [5] }), (3, { mw := [1], nref := 1 }), (8, { mw := [9] })], kt := [45, 46, 47, 48, 49, 50, 51], kb := [] }),
 (10, { ops := [(4, { mr := [7] }), (5, { mr := [9] })], kt := [52, 53, 54, 55, 56, 57, 58, 59], kb := [] }),
 (11, { ops := [], kt := [61], kb := [] }),
 (12, { ops := [(2, { mr := [5] }), (3, { mw := [0], nref := 1 }), (6, { mr := [5] }), (7, { mw := [1], nref := 1 })], kt := [62, 63, 64, 65, 66, 67, 68, 69, 70], kb := [] }),
 (13, { ops := [], kt := [72], kb := [] }),
 (14, { ops := [(2, { mr := [5] }), (4, { mr := [5] }), (5, { mw := [0], nref := 1 }), (8, { mr := [5] }), (10, { mr := [5] }), (11, { mw := [1], nref := 1 })], kt := [73, 74, 75, 76, 77, 78, 79, 80, 81, 82, 83, 84, 85], kb := [] }),
 (15, { ops := [], kt := [87], kb := [] }),
 (16, { ops := [(2, { mr := [5] }), (3, { mw := [0], nref := 1 }), (8, { mw := [11] })], kt := [88, 89, 90, 91, 92, 93, 94], kb := [] }),
 (17, { ops := [(3, { mr := [5] }), (4, { mw := [1], nref := 1 }), (10, { mr := [11] }), (14, { mr := [1] }), (16, { mr := [5] })], kt := [95, 96, 97, 98, 99, 100, 101, 102, 103, 104, 105, 106, 107, 108, 109, 110, 111, 112, 113, 114, 115, 116], kb := [] })]
def c_plaw31_does (F : Nat → FuncId) : AFun := { nparams := 3, ntmps := 117, results := [.tmp 6], body :=
 (.seq
 (.reg [⟨(some 5), [], [.t 2], [], [5], .box, none⟩,
 ⟨(some 6), [], [.c (.bool false)], [], [], .cp, none⟩] [] [])
 (.seq
 (.reg [⟨(some 13), [], [.t 5], [], [], .faddr 0, none⟩,
 ⟨(some 14), [], [.t 13], [5], [], .load false 1, none⟩] [13] [])
 (.block 0
 (.seq
 (.seq
 (.reg [⟨(some 16), [], [.t 14, .c (.int .i64 0)], [], [], .bini .eql, none⟩,
 ⟨(some 15), [16], [.t 16], [], [], .mv, none⟩] [16] [])
 (.cond (.t 15)
 .skip
 (.seq
 (.reg [⟨(some 17), [], [.t 14, .c (.int .i64 1)], [], [], .bini .eql, none⟩,
 ⟨(some 15), [17], [.t 17], [], [], .mv, none⟩] [17] [])
 (.cond (.t 15)
 .skip
 (.reg [⟨(some 18), [], [.t 14, .c (.int .i64 2)], [], [], .bini .eql, none⟩,
 ⟨(some 15), [18], [.t 18], [], [], .mv, none⟩] [18] [])))))
 (.cond (.t 15)
 (.seq
 (.reg [⟨(some 19), [], [.t 0], [], [], .cp, none⟩,
 ⟨(some 20), [], [.t 5], [], [], .faddr 3, none⟩,
 ⟨(some 21), [], [.t 20], [5], [], .load true 3, none⟩,
 ⟨(some 22), [], [.c (.fn (F n_net_Net_Send)), .t 19, .t 21], [], [0], .call 1 false, none⟩,
 ⟨(some 23), [], [.t 1], [], [], .cp, none⟩,
 ⟨(some 24), [], [.t 5], [], [], .faddr 3, none⟩,
 ⟨(some 25), [], [.t 24], [], [], .faddr 0, none⟩,
 ⟨(some 26), [], [.t 25], [5], [], .load false 1, none⟩,
 ⟨(some 27), [], [.t 5], [], [], .faddr 3, none⟩,
 ⟨(some 28), [], [.t 27], [], [], .faddr 1, none⟩,
 ⟨(some 29), [], [.t 28], [5], [], .load false 1, none⟩,
 ⟨(some 30), [], [.t 5], [], [], .faddr 3, none⟩,
 ⟨(some 31), [], [.t 30], [], [], .faddr 2, none⟩,
 ⟨(some 32), [], [.t 31], [5], [], .load false 1, none⟩,
 ⟨(some 33), [], [.t 26, .t 29, .t 32], [], [], .build [.int .i64 0, .int .i64 0, .str []] [(0, 1), (1, 1), (2, 1)], none⟩,
 ⟨(some 34), [], [.c (.fn (F n_pref31_Net_Send)), .t 23, .t 33], [], [1], .call 1 false, none⟩,
 ⟨(some 35), [], [.t 22, .t 34], [], [], .bini .eql, none⟩,
 ⟨(some 6), [35], [.t 35], [], [], .mv, none⟩] [19, 20, 21, 22, 23, 24, 25, 26, 27, 28, 29, 30, 31, 32, 33, 34, 35] [])
 .ret)
 (.seq
 (.reg [⟨(some 37), [], [.t 14, .c (.int .i64 3)], [], [], .bini .eql, none⟩,
 ⟨(some 36), [37], [.t 37], [], [], .mv, none⟩] [37] [])
 (.cond (.t 36)
 (.seq
 (.reg [⟨(some 39), [], [.t 0], [], [], .cp, none⟩,
 ⟨(some 40), [], [.t 5], [], [], .faddr 1, none⟩,
 ⟨(some 41), [], [.t 40], [5], [], .load false 1, none⟩,
 ⟨(some 42), [], [.c (.fn (F n_net_Net_Take)), .t 39, .t 41], [], [0], .call 1 false, none⟩,
 ⟨(some 38), [], [.t 42], [], [], .cp, none⟩,
 ⟨(some 43), [], [.t 38], [], [], .extract 0, none⟩,
 ⟨(some 44), [], [.t 38], [], [], .extract 1, none⟩,
 ⟨(some 7), [], [], [], [7], .alloc [.val (.int .i64 0), .val (.int .i64 0), .val (.str [])], none⟩,
 ⟨none, [43], [.t 7, .t 43], [], [7], .store true 3, none⟩,
 ⟨(some 8), [44], [.t 44], [], [], .mv, none⟩] [38, 39, 40, 41, 42, 43, 44] [])
 (.seq
 (.reg [⟨(some 46), [], [.t 1], [], [], .cp, none⟩,
 ⟨(some 47), [], [.t 5], [], [], .faddr 1, none⟩,
 ⟨(some 48), [], [.t 47], [5], [], .load false 1, none⟩,
 ⟨(some 49), [], [.c (.fn (F n_pref31_Net_Take)), .t 46, .t 48], [], [1], .call 1 false, none⟩,
 ⟨(some 45), [], [.t 49], [], [], .cp, none⟩,
 ⟨(some 50), [], [.t 45], [], [], .extract 0, none⟩,
 ⟨(some 51), [], [.t 45], [], [], .extract 1, none⟩,
 ⟨(some 9), [], [], [], [9], .alloc [.val (.int .i64 0), .val (.int .i64 0), .val (.str [])], none⟩,
 ⟨none, [50], [.t 9, .t 50], [], [9], .store true 3, none⟩,
 ⟨(some 10), [51], [.t 51], [], [], .mv, none⟩] [45, 46, 47, 48, 49, 50, 51] [])
 (.seq
 (.reg [⟨(some 52), [], [.t 8], [], [], .cp, none⟩,
 ⟨(some 53), [], [.t 10], [], [], .cp, none⟩,
 ⟨(some 54), [], [.t 52, .t 53], [], [], .binb false, none⟩,
 ⟨(some 55), [], [.t 54], [], [], .cp, none⟩,
 ⟨(some 56), [], [.t 7], [7], [], .load true 3, some (55, true)⟩,
 ⟨(some 57), [], [.t 9], [9], [], .load true 3, some (55, true)⟩,
 ⟨(some 58), [], [.c (.fn (F n_plaw31_same)), .t 56, .t 57], [], [], .call 0 false, some (55, true)⟩,
 ⟨(some 59), [], [.t 55, .t 58, .c (.bool false)], [], [], .pick, none⟩,
 ⟨(some 6), [59], [.t 59], [], [], .mv, none⟩] [52, 53, 54, 55, 56, 57, 58, 59] [])
 .ret)))
 (.seq
 (.reg [⟨(some 61), [], [.t 14, .c (.int .i64 4)], [], [], .bini .eql, none⟩,
 ⟨(some 60), [61], [.t 61], [], [], .mv, none⟩] [61] [])
 (.cond (.t 60)
 (.seq
 (.reg [⟨(some 62), [], [.t 0], [], [], .cp, none⟩,
 ⟨(some 63), [], [.t 5], [], [], .faddr 1, none⟩,
 ⟨(some 64), [], [.t 63], [5], [], .load false 1, none⟩,
 ⟨(some 65), [], [.c (.fn (F n_net_Net_Twice)), .t 62, .t 64], [], [0], .call 1 false, none⟩,
 ⟨(some 66), [], [.t 1], [], [], .cp, none⟩,
 ⟨(some 67), [], [.t 5], [], [], .faddr 1, none⟩,
 ⟨(some 68), [], [.t 67], [5], [], .load false 1, none⟩,
 ⟨(some 69), [], [.c (.fn (F n_pref31_Net_Twice)), .t 66, .t 68], [], [1], .call 1 false, none⟩,
 ⟨(some 70), [], [.t 65, .t 69], [], [], .bini .eql, none⟩,
 ⟨(some 6), [70], [.t 70], [], [], .mv, none⟩] [62, 63, 64, 65, 66, 67, 68, 69, 70] [])
 .ret)
 (.seq
 (.reg [⟨(some 72), [], [.t 14, .c (.int .i64 5)], [], [], .bini .eql, none⟩,
 ⟨(some 71), [72], [.t 72], [], [], .mv, none⟩] [72] [])
 (.cond (.t 71)
 (.seq
 (.reg [⟨(some 73), [], [.t 0], [], [], .cp, none⟩,
 ⟨(some 74), [], [.t 5], [], [], .faddr 1, none⟩,
 ⟨(some 75), [], [.t 74], [5], [], .load false 1, none⟩,
 ⟨(some 76), [], [.t 5], [], [], .faddr 2, none⟩,
 ⟨(some 77), [], [.t 76], [5], [], .load false 1, none⟩,
 ⟨(some 78), [], [.c (.fn (F n_net_Net_Spoil)), .t 73, .t 75, .t 77], [], [0], .call 1 false, none⟩,
 ⟨(some 79), [], [.t 1], [], [], .cp, none⟩,
 ⟨(some 80), [], [.t 5], [], [], .faddr 1, none⟩,
 ⟨(some 81), [], [.t 80], [5], [], .load false 1, none⟩,
 ⟨(some 82), [], [.t 5], [], [], .faddr 2, none⟩,
 ⟨(some 83), [], [.t 82], [5], [], .load false 1, none⟩,
 ⟨(some 84), [], [.c (.fn (F n_pref31_Net_Spoil)), .t 79, .t 81, .t 83], [], [1], .call 1 false, none⟩,
 ⟨(some 85), [], [.t 78, .t 84], [], [], .bini .eql, none⟩,
 ⟨(some 6), [85], [.t 85], [], [], .mv, none⟩] [73, 74, 75, 76, 77, 78, 79, 80, 81, 82, 83, 84, 85] [])
 .ret)
 (.seq
 (.reg [⟨(some 87), [], [.t 14, .c (.int .i64 6)], [], [], .bini .eql, none⟩,
 ⟨(some 86), [87], [.t 87], [], [], .mv, none⟩] [87] [])
 (.cond (.t 86)
 (.seq
 (.reg [⟨(some 89), [], [.t 0], [], [], .cp, none⟩,
 ⟨(some 90), [], [.t 5], [], [], .faddr 1, none⟩,
 ⟨(some 91), [], [.t 90], [5], [], .load false 1, none⟩,
 ⟨(some 92), [], [.c (.fn (F n_net_Net_Look)), .t 89, .t 91], [], [0], .call 1 false, none⟩,
 ⟨(some 88), [], [.t 92], [], [], .cp, none⟩,
 ⟨(some 93), [], [.t 88], [], [], .extract 0, none⟩,
 ⟨(some 94), [], [.t 88], [], [], .extract 1, none⟩,
 ⟨(some 11), [], [], [], [11], .alloc [.val (.int .i64 0), .val (.int .i64 0), .val (.str [])], none⟩,
 ⟨none, [93], [.t 11, .t 93], [], [11], .store true 3, none⟩,
 ⟨(some 12), [94], [.t 94], [], [], .mv, none⟩] [88, 89, 90, 91, 92, 93, 94] [])
 (.seq
 (.reg [⟨(some 95), [], [.t 12], [], [], .cp, none⟩,
 ⟨(some 96), [], [.t 1], [], [], .cp, none⟩,
 ⟨(some 97), [], [.t 5], [], [], .faddr 1, none⟩,
 ⟨(some 98), [], [.t 97], [5], [], .load false 1, none⟩,
 ⟨(some 99), [], [.c (.fn (F n_pref31_Net_Is)), .t 96, .t 98], [], [1], .call 1 false, none⟩,
 ⟨(some 100), [], [.t 95, .t 99], [], [], .binb false, none⟩,
 ⟨(some 101), [], [.t 100], [], [], .cp, none⟩,
 ⟨(some 102), [], [.t 12], [], [], .cp, some (101, true)⟩,
 ⟨(some 103), [], [.t 102], [], [], .not, some (101, true)⟩,
 ⟨(some 104), [], [.t 103], [], [], .cp, some (101, true)⟩,
 ⟨(some 105), [], [.t 11], [11], [], .load true 3, some (104, false)⟩,
 ⟨(some 106), [], [.t 1], [], [], .cp, some (104, false)⟩,
 ⟨(some 107), [], [.t 106], [], [], .nilck, some (104, false)⟩,
 ⟨(some 108), [], [.t 107], [], [], .faddr 0, some (104, false)⟩,
 ⟨(some 109), [], [.t 108], [1], [], .load false 1, some (104, false)⟩,
 ⟨(some 110), [], [.t 5], [], [], .faddr 1, some (104, false)⟩,
 ⟨(some 111), [], [.t 110], [5], [], .load false 1, some (104, false)⟩,
 ⟨(some 112), [], [.t 109, .t 111], [], [], .iaddr none 3, some (104, false)⟩,
 ⟨(some 113), [], [.t 112], [], [], .load true 3, some (104, false)⟩,
 ⟨(some 114), [], [.c (.fn (F n_plaw31_same)), .t 105, .t 113], [], [], .call 0 false, some (104, false)⟩,
 ⟨(some 115), [], [.t 104, .c (.bool true), .t 114], [], [], .pick, some (101, true)⟩,
 ⟨(some 116), [], [.t 101, .t 115, .c (.bool false)], [], [], .pick, none⟩,
 ⟨(some 6), [116], [.t 116], [], [], .mv, none⟩] [95, 96, 97, 98, 99, 100, 101, 102, 103, 104, 105, 106, 107, 108, 109, 110, 111, 112, 113, 114, 115, 116] [])
 .ret))
 (.seq
 (.reg [⟨(some 6), [], [.c (.bool true)], [], [], .cp, none⟩] [] [])
 .ret)))))))))))))) }

def H_net_Net_Look : Hints := [(1, { ops := [(2, { mw := [0], nref := 1 })], kt := [6, 7, 8], kb := [] }),
 (2, { ops := [(1, { mw := [4] })], kt := [10], kb := [] }),
 (3, { ops := [(3, { mr := [0] }), (7, { mw := [4] })], kt := [11, 12, 13, 14, 15, 16, 17], kb := [] })]
def c_net_Net_Look (F : Nat → FuncId) : AFun := { nparams := 2, ntmps := 18, results := [.cell 4 true 3, .tmp 5], body :=
 (.seq
 (.reg [⟨(some 4), [], [], [], [4], .alloc [.val (.int .i64 0), .val (.int .i64 0), .val (.str [])], none⟩,
 ⟨(some 5), [], [.c (.bool false)], [], [], .cp, none⟩] [] [])
 (.seq
 (.seq
 (.reg [⟨(some 6), [], [.t 0], [], [], .cp, none⟩,
 ⟨(some 7), [], [.t 1], [], [], .cp, none⟩,
 ⟨(some 8), [], [.c (.fn (F n_net_Net_is)), .t 6, .t 7], [], [0], .call 1 false, none⟩,
 ⟨(some 9), [], [.t 8], [], [], .not, none⟩] [6, 7, 8] [])
 (.cond (.t 9)
 (.seq
 (.reg [⟨(some 10), [], [], [], [], .build [.int .i64 0, .int .i64 0, .str []] [], none⟩,
 ⟨none, [10], [.t 4, .t 10], [], [4], .store true 3, none⟩,
 ⟨(some 5), [], [.c (.bool false)], [], [], .cp, none⟩] [10] [])
 .ret)
 .skip))
 (.seq
 (.reg [⟨(some 11), [], [.t 0], [], [], .cp, none⟩,
 ⟨(some 12), [], [.t 11], [], [], .nilck, none⟩,
 ⟨(some 13), [], [.t 12], [], [], .faddr 0, none⟩,
 ⟨(some 14), [], [.t 13], [0], [], .load false 1, none⟩,
 ⟨(some 15), [], [.t 1], [], [], .cp, none⟩,
 ⟨(some 16), [], [.t 14, .t 15], [], [], .iaddr none 3, none⟩,
 ⟨(some 17), [], [.t 16], [], [], .load true 3, none⟩,
 ⟨none, [17], [.t 4, .t 17], [], [4], .store true 3, none⟩,
 ⟨(some 5), [], [.c (.bool true)], [], [], .cp, none⟩] [11, 12, 13, 14, 15, 16, 17] [])
 .ret))) }

def H_net_Net_Look__nil : Hints := [(1, { ops := [], kt := [6, 7, 8], kb := [] }),
 (2, { ops := [(1, { mw := [4] })], kt := [10], kb := [] }),
 (3, { ops := [(7, { mw := [4] })], kt := [11, 12, 13, 14, 15, 16, 17], kb := [] })]
def c_net_Net_Look__nil (F : Nat → FuncId) : AFun := { nparams := 2, ntmps := 18, results := [.cell 4 true 3, .tmp 5], body :=
 (.seq
 (.reg [⟨(some 4), [], [], [], [4], .alloc [.val (.int .i64 0), .val (.int .i64 0), .val (.str [])], none⟩,
 ⟨(some 5), [], [.c (.bool false)], [], [], .cp, none⟩] [] [])
 (.seq
 (.seq
 (.reg [⟨(some 6), [], [.t 0], [], [], .cp, none⟩,
 ⟨(some 7), [], [.t 1], [], [], .cp, none⟩,
 ⟨(some 8), [], [.c (.fn (F n_net_Net_is)), .t 6, .t 7], [], [], .call 0 false, none⟩,
 ⟨(some 9), [], [.t 8], [], [], .not, none⟩] [6, 7, 8] [])
 (.cond (.t 9)
 (.seq
 (.reg [⟨(some 10), [], [], [], [], .build [.int .i64 0, .int .i64 0, .str []] [], none⟩,
 ⟨none, [10], [.t 4, .t 10], [], [4], .store true 3, none⟩,
 ⟨(some 5), [], [.c (.bool false)], [], [], .cp, none⟩] [10] [])
 .ret)
 .skip))
 (.seq
 (.reg [⟨(some 11), [], [.t 0], [], [], .cp, none⟩,
 ⟨(some 12), [], [.t 11], [], [], .nilck, none⟩,
 ⟨(some 13), [], [.t 12], [], [], .faddr 0, none⟩,
 ⟨(some 14), [], [.t 13], [], [], .load false 1, none⟩,
 ⟨(some 15), [], [.t 1], [], [], .cp, none⟩,
 ⟨(some 16), [], [.t 14, .t 15], [], [], .iaddr none 3, none⟩,
 ⟨(some 17), [], [.t 16], [], [], .load true 3, none⟩,
 ⟨none, [17], [.t 4, .t 17], [], [4], .store true 3, none⟩,
 ⟨(some 5), [], [.c (.bool true)], [], [], .cp, none⟩] [11, 12, 13, 14, 15, 16, 17] [])
 .ret))) }

def H_plaw31_same : Hints := [(1, { ops := [(1, { mr := [2] }), (3, { mr := [3] }), (7, { mr := [2] }), (9, { mr := [3] }), (14, { mr := [2] }), (16, { mr := [3] })], kt := [5, 6, 7, 8, 9, 10, 11, 12, 13, 14, 15, 16, 17, 18, 19, 20, 21, 22, 23], kb := [] })]
def c_plaw31_same (F : Nat → FuncId) : AFun := { nparams := 2, ntmps := 24, results := [.tmp 4], body :=
 (.seq
 (.reg [⟨(some 2), [], [.t 0], [], [2], .box, none⟩,
 ⟨(some 3), [], [.t 1], [], [3], .box, none⟩,
 ⟨(some 4), [], [.c (.bool false)], [], [], .cp, none⟩] [] [])
 (.seq
 (.reg [⟨(some 5), [], [.t 2], [], [], .faddr 0, none⟩,
 ⟨(some 6), [], [.t 5], [2], [], .load false 1, none⟩,
 ⟨(some 7), [], [.t 3], [], [], .faddr 0, none⟩,
 ⟨(some 8), [], [.t 7], [3], [], .load false 1, none⟩,
 ⟨(some 9), [], [.t 6, .t 8], [], [], .bini .eql, none⟩,
 ⟨(some 10), [], [.t 9], [], [], .cp, none⟩,
 ⟨(some 11), [], [.t 2], [], [], .faddr 1, some (10, true)⟩,
 ⟨(some 12), [], [.t 11], [2], [], .load false 1, some (10, true)⟩,
 ⟨(some 13), [], [.t 3], [], [], .faddr 1, some (10, true)⟩,
 ⟨(some 14), [], [.t 13], [3], [], .load false 1, some (10, true)⟩,
 ⟨(some 15), [], [.t 12, .t 14], [], [], .bini .eql, some (10, true)⟩,
 ⟨(some 16), [], [.t 10, .t 15, .c (.bool false)], [], [], .pick, none⟩,
 ⟨(some 17), [], [.t 16], [], [], .cp, none⟩,
 ⟨(some 18), [], [.t 2], [], [], .faddr 2, some (17, true)⟩,
 ⟨(some 19), [], [.t 18], [2], [], .load false 1, some (17, true)⟩,
 ⟨(some 20), [], [.t 3], [], [], .faddr 2, some (17, true)⟩,
 ⟨(some 21), [], [.t 20], [3], [], .load false 1, some (17, true)⟩,
 ⟨(some 22), [], [.t 19, .t 21], [], [], .bins .eql, some (17, true)⟩,
 ⟨(some 23), [], [.t 17, .t 22, .c (.bool false)], [], [], .pick, none⟩,
 ⟨(some 4), [23], [.t 23], [], [], .mv, none⟩] [5, 6, 7, 8, 9, 10, 11, 12, 13, 14, 15, 16, 17, 18, 19, 20, 21, 22, 23] [])
 .ret)) }

def H_net_Net_Twice : Hints := [(1, { ops := [(2, { mw := [0], nref := 1 }), (7, { mw := [5] })], kt := [7, 8, 9, 10, 11, 12], kb := [] }),
 (2, { ops := [], kt := [14, 15], kb := [] }),
 (4, { ops := [], kt := [17, 18], kb := [] }),
 (6, { ops := [(1, { mr := [5] }), (2, { mw := [0], nref := 1 })], kt := [19, 20, 21], kb := [] })]
def c_net_Net_Twice (F : Nat → FuncId) : AFun := { nparams := 2, ntmps := 22, results := [.tmp 4], body :=
 (.seq
 (.reg [⟨(some 4), [], [.c (.int .i64 0)], [], [], .cp, none⟩] [] [])
 (.seq
 (.reg [⟨(some 8), [], [.t 0], [], [], .cp, none⟩,
 ⟨(some 9), [], [.t 1], [], [], .cp, none⟩,
 ⟨(some 10), [], [.c (.fn (F n_net_Net_Look)), .t 8, .t 9], [], [0], .call 1 false, none⟩,
 ⟨(some 7), [], [.t 10], [], [], .cp, none⟩,
 ⟨(some 11), [], [.t 7], [], [], .extract 0, none⟩,
 ⟨(some 12), [], [.t 7], [], [], .extract 1, none⟩,
 ⟨(some 5), [], [], [], [5], .alloc [.val (.int .i64 0), .val (.int .i64 0), .val (.str [])], none⟩,
 ⟨none, [11], [.t 5, .t 11], [], [5], .store true 3, none⟩,
 ⟨(some 6), [12], [.t 12], [], [], .mv, none⟩] [7, 8, 9, 10, 11, 12] [])
 (.seq
 (.block 0
 (.seq
 (.reg [⟨(some 14), [], [.t 0], [], [], .cp, none⟩,
 ⟨(some 15), [], [.t 14, .c (.nilp)], [], [], .eqn false, none⟩,
 ⟨(some 13), [15], [.t 15], [], [], .mv, none⟩] [14, 15] [])
 (.cond (.t 13)
 (.seq
 (.reg [⟨(some 4), [], [.c (.int .i64 1)], [], [], .cp, none⟩] [] [])
 .ret)
 (.seq
 (.reg [⟨(some 17), [], [.t 6], [], [], .cp, none⟩,
 ⟨(some 18), [], [.t 17], [], [], .not, none⟩,
 ⟨(some 16), [18], [.t 18], [], [], .mv, none⟩] [17, 18] [])
 (.cond (.t 16)
 (.seq
 (.reg [⟨(some 4), [], [.c (.int .i64 12)], [], [], .cp, none⟩] [] [])
 .ret)
 .skip)))))
 (.seq
 (.reg [⟨(some 19), [], [.t 0], [], [], .cp, none⟩,
 ⟨(some 20), [], [.t 5], [5], [], .load true 3, none⟩,
 ⟨(some 21), [], [.c (.fn (F n_net_Net_Send)), .t 19, .t 20], [], [0], .call 1 false, none⟩,
 ⟨(some 4), [21], [.t 21], [], [], .mv, none⟩] [19, 20, 21] [])
 .ret)))) }

def H_net_Net_Twice__nil : Hints := [(1, { ops := [(7, { mw := [5] })], kt := [7, 8, 9, 10, 11, 12], kb := [] }),
 (2, { ops := [], kt := [14, 15], kb := [] }),
 (4, { ops := [], kt := [17, 18], kb := [] }),
 (6, { ops := [(1, { mr := [5] })], kt := [19, 20, 21], kb := [] })]
def c_net_Net_Twice__nil (F : Nat → FuncId) : AFun := { nparams := 2, ntmps := 22, results := [.tmp 4], body :=
 (.seq
 (.reg [⟨(some 4), [], [.c (.int .i64 0)], [], [], .cp, none⟩] [] [])
 (.seq
 (.reg [⟨(some 8), [], [.t 0], [], [], .cp, none⟩,
 ⟨(some 9), [], [.t 1], [], [], .cp, none⟩,
 ⟨(some 10), [], [.c (.fn (F n_net_Net_Look)), .t 8, .t 9], [], [], .call 0 false, none⟩,
 ⟨(some 7), [], [.t 10], [], [], .cp, none⟩,
 ⟨(some 11), [], [.t 7], [], [], .extract 0, none⟩,
 ⟨(some 12), [], [.t 7], [], [], .extract 1, none⟩,
 ⟨(some 5), [], [], [], [5], .alloc [.val (.int .i64 0), .val (.int .i64 0), .val (.str [])], none⟩,
 ⟨none, [11], [.t 5, .t 11], [], [5], .store true 3, none⟩,
 ⟨(some 6), [12], [.t 12], [], [], .mv, none⟩] [7, 8, 9, 10, 11, 12] [])
 (.seq
 (.block 0
 (.seq
 (.reg [⟨(some 14), [], [.t 0], [], [], .cp, none⟩,
 ⟨(some 15), [], [.t 14, .c (.nilp)], [], [], .eqn false, none⟩,
 ⟨(some 13), [15], [.t 15], [], [], .mv, none⟩] [14, 15] [])
 (.cond (.t 13)
 (.seq
 (.reg [⟨(some 4), [], [.c (.int .i64 1)], [], [], .cp, none⟩] [] [])
 .ret)
 (.seq
 (.reg [⟨(some 17), [], [.t 6], [], [], .cp, none⟩,
 ⟨(some 18), [], [.t 17], [], [], .not, none⟩,
 ⟨(some 16), [18], [.t 18], [], [], .mv, none⟩] [17, 18] [])
 (.cond (.t 16)
 (.seq
 (.reg [⟨(some 4), [], [.c (.int .i64 12)], [], [], .cp, none⟩] [] [])
 .ret)
 .skip)))))
 (.seq
 (.reg [⟨(some 19), [], [.t 0], [], [], .cp, none⟩,
 ⟨(some 20), [], [.t 5], [5], [], .load true 3, none⟩,
 ⟨(some 21), [], [.c (.fn (F n_net_Net_Send)), .t 19, .t 20], [], [], .call 0 false, none⟩,
 ⟨(some 4), [21], [.t 21], [], [], .mv, none⟩] [19, 20, 21] [])
 .ret)))) }

def H_slices_Clone_net_Flight_net_Flight : Hints := [(1, { ops := [], kt := [3], kb := [] }),
 (2, { ops := [(0, { x := 1 })], kt := [], kb := [] }),
 (3, { ops := [(0, { x := 2 }), (2, { x := 1 })], kt := [5, 6, 7], kb := [] })]
def c_slices_Clone_net_Flight_net_Flight (F : Nat → FuncId) : AFun := { nparams := 1, ntmps := 8, results := [.tmp 2], body :=
 (.seq
 (.reg [⟨(some 2), [], [], [], [], .nils 3, none⟩] [] [])
 (.seq
 (.seq
 (.reg [⟨(some 3), [], [.t 0], [], [], .cp, none⟩,
 ⟨(some 4), [], [.t 3], [], [], .eqsl false, none⟩] [3] [])
 (.cond (.t 4)
 (.seq
 (.reg [⟨(some 2), [], [], [], [], .nilsx 3, none⟩] [] [])
 .ret)
 .skip))
 (.seq
 (.reg [⟨(some 5), [], [], [], [], .nilsx 3, none⟩,
 ⟨(some 6), [], [.t 0], [], [], .cp, none⟩,
 ⟨(some 7), [5], [.t 5, .t 6], [], [], .appendx 3 32, none⟩,
 ⟨(some 2), [7], [.t 7], [], [], .mv, none⟩] [5, 6, 7] [])
 .ret))) }

def H_pref31_Net_Send : Hints := [(1, { ops := [(3, { mr := [0] })], kt := [5, 6, 7, 8, 9], kb := [] }),
 (3, { ops := [(4, { take := true, mw := [0] }), (5, { mr := [3] }), (10, { mw := [0] })], kt := [11, 12, 13, 14, 15, 16, 17, 18, 19, 20], kb := [] })]
def c_pref31_Net_Send (F : Nat → FuncId) : AFun := { nparams := 2, ntmps := 21, results := [.tmp 4], body :=
 (.seq
 (.reg [⟨(some 3), [], [.t 1], [], [3], .box, none⟩,
 ⟨(some 4), [], [.c (.int .i64 0)], [], [], .cp, none⟩] [] [])
 (.seq
 (.seq
 (.reg [⟨(some 5), [], [.t 0], [], [], .cp, none⟩,
 ⟨(some 6), [], [.t 5], [], [], .nilck, none⟩,
 ⟨(some 7), [], [.t 6], [], [], .faddr 0, none⟩,
 ⟨(some 8), [], [.t 7], [0], [], .load false 1, none⟩,
 ⟨(some 9), [], [.t 8], [], [], .len false, none⟩,
 ⟨(some 10), [], [.t 9, .c (.int .i64 200)], [], [], .bini .geq, none⟩] [5, 6, 7, 8, 9] [])
 (.cond (.t 10)
 (.seq
 (.reg [⟨(some 4), [], [.c (.int .i64 7)], [], [], .cp, none⟩] [] [])
 .ret)
 .skip))
 (.seq
 (.reg [⟨(some 11), [], [.t 0], [], [], .cp, none⟩,
 ⟨(some 12), [], [.t 0], [], [], .cp, none⟩,
 ⟨(some 13), [], [.t 12], [], [], .nilck, none⟩,
 ⟨(some 14), [], [.t 13], [], [], .faddr 0, none⟩,
 ⟨(some 15), [], [.t 14], [], [0], .ltake, none⟩,
 ⟨(some 16), [], [.t 3], [3], [], .load true 3, none⟩,
 ⟨(some 17), [], [.t 16], [], [], .bslice 3 [.int .i64 0, .int .i64 0, .str []] [(0, 3)], none⟩,
 ⟨(some 18), [15], [.t 15, .t 17], [], [], .append 3 32, none⟩,
 ⟨(some 19), [], [.t 11], [], [], .nilck, none⟩,
 ⟨(some 20), [], [.t 19], [], [], .faddr 0, none⟩,
 ⟨none, [18], [.t 20, .t 18], [], [0], .store false 1, none⟩] [11, 12, 13, 14, 15, 16, 17, 18, 19, 20] [])
 (.seq
 (.reg [⟨(some 4), [], [.c (.int .i64 0)], [], [], .cp, none⟩] [] [])
 .ret)))) }

def H_pref31_Net_Take : Hints := [(1, { ops := [(2, { mw := [0], nref := 1 })], kt := [8, 9, 10], kb := [] }),
 (2, { ops := [(1, { mw := [4] })], kt := [12], kb := [] }),
 (3, { ops := [(3, { mr := [0] }), (8, { mw := [6] })], kt := [13, 14, 15, 16, 17, 18, 19], kb := [] }),
 (5, { ops := [(0, { take := true }), (4, { mr := [0] })], kt := [20, 21, 22, 23, 24, 25, 26, 27], kb := [] }),
 (6, { ops := [(1, { take := true }), (5, { mr := [0] }), (12, { mw := [0] })], kt := [28, 29, 30, 31, 32, 33, 34, 35, 36, 37, 38, 39], kb := [] }),
 (7, { ops := [(0, { mr := [6] }), (1, { mw := [4] })], kt := [40], kb := [] })]
def c_pref31_Net_Take (F : Nat → FuncId) : AFun := { nparams := 2, ntmps := 41, results := [.cell 4 true 3, .tmp 5], body :=
 (.seq
 (.reg [⟨(some 4), [], [], [], [4], .alloc [.val (.int .i64 0), .val (.int .i64 0), .val (.str [])], none⟩,
 ⟨(some 5), [], [.c (.bool false)], [], [], .cp, none⟩] [] [])
 (.seq
 (.seq
 (.reg [⟨(some 8), [], [.t 0], [], [], .cp, none⟩,
 ⟨(some 9), [], [.t 1], [], [], .cp, none⟩,
 ⟨(some 10), [], [.c (.fn (F n_pref31_Net_Is)), .t 8, .t 9], [], [0], .call 1 false, none⟩,
 ⟨(some 11), [], [.t 10], [], [], .not, none⟩] [8, 9, 10] [])
 (.cond (.t 11)
 (.seq
 (.reg [⟨(some 12), [], [], [], [], .build [.int .i64 0, .int .i64 0, .str []] [], none⟩,
 ⟨none, [12], [.t 4, .t 12], [], [4], .store true 3, none⟩,
 ⟨(some 5), [], [.c (.bool false)], [], [], .cp, none⟩] [12] [])
 .ret)
 .skip))
 (.seq
 (.reg [⟨(some 13), [], [.t 0], [], [], .cp, none⟩,
 ⟨(some 14), [], [.t 13], [], [], .nilck, none⟩,
 ⟨(some 15), [], [.t 14], [], [], .faddr 0, none⟩,
 ⟨(some 16), [], [.t 15], [0], [], .load false 1, none⟩,
 ⟨(some 17), [], [.t 1], [], [], .cp, none⟩,
 ⟨(some 18), [], [.t 16, .t 17], [], [], .iaddr none 3, none⟩,
 ⟨(some 19), [], [.t 18], [], [], .load true 3, none⟩,
 ⟨(some 6), [], [], [], [6], .alloc [.val (.int .i64 0), .val (.int .i64 0), .val (.str [])], none⟩,
 ⟨none, [19], [.t 6, .t 19], [], [6], .store true 3, none⟩] [13, 14, 15, 16, 17, 18, 19] [])
 (.seq
 (.reg [⟨(some 7), [], [], [], [], .nils 3, none⟩] [] [])
 (.seq
 (.reg [⟨(some 20), [7], [.t 7], [], [], .mv, none⟩,
 ⟨(some 21), [], [.t 0], [], [], .cp, none⟩,
 ⟨(some 22), [], [.t 21], [], [], .nilck, none⟩,
 ⟨(some 23), [], [.t 22], [], [], .faddr 0, none⟩,
 ⟨(some 24), [], [.t 23], [0], [], .load false 1, none⟩,
 ⟨(some 25), [], [.t 1], [], [], .cp, none⟩,
 ⟨(some 26), [], [.t 24, .t 25], [], [], .slice 3 false true false, none⟩,
 ⟨(some 27), [20], [.t 20, .t 26], [], [], .append 3 32, none⟩,
 ⟨(some 7), [27], [.t 27], [], [], .mv, none⟩] [20, 21, 22, 23, 24, 25, 26, 27] [])
 (.seq
 (.reg [⟨(some 28), [], [.t 0], [], [], .cp, none⟩,
 ⟨(some 29), [7], [.t 7], [], [], .mv, none⟩,
 ⟨(some 30), [], [.t 0], [], [], .cp, none⟩,
 ⟨(some 31), [], [.t 30], [], [], .nilck, none⟩,
 ⟨(some 32), [], [.t 31], [], [], .faddr 0, none⟩,
 ⟨(some 33), [], [.t 32], [0], [], .load false 1, none⟩,
 ⟨(some 34), [], [.t 1], [], [], .cp, none⟩,
 ⟨(some 35), [], [.t 34, .c (.int .i64 1)], [], [], .bini .add, none⟩,
 ⟨(some 36), [], [.t 33, .t 35], [], [], .slice 3 true false false, none⟩,
 ⟨(some 37), [29], [.t 29, .t 36], [], [], .append 3 32, none⟩,
 ⟨(some 38), [], [.t 28], [], [], .nilck, none⟩,
 ⟨(some 39), [], [.t 38], [], [], .faddr 0, none⟩,
 ⟨none, [37], [.t 39, .t 37], [], [0], .store false 1, none⟩] [28, 29, 30, 31, 32, 33, 34, 35, 36, 37, 38, 39] [])
 (.seq
 (.reg [⟨(some 40), [], [.t 6], [6], [], .load true 3, none⟩,
 ⟨none, [40], [.t 4, .t 40], [], [4], .store true 3, none⟩,
 ⟨(some 5), [], [.c (.bool true)], [], [], .cp, none⟩] [40] [])
 .ret))))))) }

def H_pref31_Net_Twice : Hints := [(1, { ops := [(2, { mw := [0], nref := 1 })], kt := [5, 6, 7], kb := [] }),
 (3, { ops := [(4, { mr := [0] }), (8, { mw := [0], nref := 1 })], kt := [9, 10, 11, 12, 13, 14, 15, 16, 17], kb := [] })]
def c_pref31_Net_Twice (F : Nat → FuncId) : AFun := { nparams := 2, ntmps := 18, results := [.tmp 4], body :=
 (.seq
 (.reg [⟨(some 4), [], [.c (.int .i64 0)], [], [], .cp, none⟩] [] [])
 (.seq
 (.seq
 (.reg [⟨(some 5), [], [.t 0], [], [], .cp, none⟩,
 ⟨(some 6), [], [.t 1], [], [], .cp, none⟩,
 ⟨(some 7), [], [.c (.fn (F n_pref31_Net_Is)), .t 5, .t 6], [], [0], .call 1 false, none⟩,
 ⟨(some 8), [], [.t 7], [], [], .not, none⟩] [5, 6, 7] [])
 (.cond (.t 8)
 (.seq
 (.reg [⟨(some 4), [], [.c (.int .i64 12)], [], [], .cp, none⟩] [] [])
 .ret)
 .skip))
 (.seq
 (.reg [⟨(some 9), [], [.t 0], [], [], .cp, none⟩,
 ⟨(some 10), [], [.t 0], [], [], .cp, none⟩,
 ⟨(some 11), [], [.t 10], [], [], .nilck, none⟩,
 ⟨(some 12), [], [.t 11], [], [], .faddr 0, none⟩,
 ⟨(some 13), [], [.t 12], [0], [], .load false 1, none⟩,
 ⟨(some 14), [], [.t 1], [], [], .cp, none⟩,
 ⟨(some 15), [], [.t 13, .t 14], [], [], .iaddr none 3, none⟩,
 ⟨(some 16), [], [.t 15], [], [], .load true 3, none⟩,
 ⟨(some 17), [], [.c (.fn (F n_pref31_Net_Send)), .t 9, .t 16], [], [0], .call 1 false, none⟩,
 ⟨(some 4), [17], [.t 17], [], [], .mv, none⟩] [9, 10, 11, 12, 13, 14, 15, 16, 17] [])
 .ret))) }

def H_pref31_Net_Spoil : Hints := [(1, { ops := [(2, { mw := [0], nref := 1 })], kt := [9, 10, 11], kb := [] }),
 (3, { ops := [(3, { mr := [0] }), (8, { mw := [7] })], kt := [13, 14, 15, 16, 17, 18, 19], kb := [] }),
 (4, { ops := [(8, { mr := [7] })], kt := [20, 21, 22, 23, 24, 25, 26, 27, 28, 29], kb := [] }),
 (6, { ops := [(1, { mr := [7] }), (3, { mr := [7] }), (10, { mw := [7] })], kt := [31, 32, 33, 34, 35, 36, 37, 38, 39, 40], kb := [] }),
 (7, { ops := [(0, { x := 1 })], kt := [], kb := [] }),
 (8, { ops := [(0, { take := true }), (4, { mr := [0] }), (5, { x := 1 })], kt := [41, 42, 43, 44, 45, 46], kb := [] }),
 (9, { ops := [(0, { x := 2 }), (2, { mr := [7] }), (4, { mw := [47] })], kt := [47, 48, 49, 50], kb := [], cl := [(8, 47, 3)] }),
 (10, { ops := [(1, { x := 1 }), (4, { mw := [0] })], kt := [51, 52, 53, 54], kb := [] })]
def c_pref31_Net_Spoil (F : Nat → FuncId) : AFun := { nparams := 3, ntmps := 55, results := [.tmp 6], body :=
 (.seq
 (.reg [⟨(some 6), [], [.c (.int .i64 0)], [], [], .cp, none⟩] [] [])
 (.seq
 (.seq
 (.reg [⟨(some 9), [], [.t 0], [], [], .cp, none⟩,
 ⟨(some 10), [], [.t 1], [], [], .cp, none⟩,
 ⟨(some 11), [], [.c (.fn (F n_pref31_Net_Is)), .t 9, .t 10], [], [0], .call 1 false, none⟩,
 ⟨(some 12), [], [.t 11], [], [], .not, none⟩] [9, 10, 11] [])
 (.cond (.t 12)
 (.seq
 (.reg [⟨(some 6), [], [.c (.int .i64 12)], [], [], .cp, none⟩] [] [])
 .ret)
 .skip))
 (.seq
 (.reg [⟨(some 13), [], [.t 0], [], [], .cp, none⟩,
 ⟨(some 14), [], [.t 13], [], [], .nilck, none⟩,
 ⟨(some 15), [], [.t 14], [], [], .faddr 0, none⟩,
 ⟨(some 16), [], [.t 15], [0], [], .load false 1, none⟩,
 ⟨(some 17), [], [.t 1], [], [], .cp, none⟩,
 ⟨(some 18), [], [.t 16, .t 17], [], [], .iaddr none 3, none⟩,
 ⟨(some 19), [], [.t 18], [], [], .load true 3, none⟩,
 ⟨(some 7), [], [], [], [7], .alloc [.val (.int .i64 0), .val (.int .i64 0), .val (.str [])], none⟩,
 ⟨none, [19], [.t 7, .t 19], [], [7], .store true 3, none⟩] [13, 14, 15, 16, 17, 18, 19] [])
 (.seq
 (.seq
 (.reg [⟨(some 20), [], [.t 2], [], [], .cp, none⟩,
 ⟨(some 21), [], [.t 20, .c (.int .i64 1)], [], [], .bini .lss, none⟩,
 ⟨(some 22), [], [.t 21], [], [], .cp, none⟩,
 ⟨(some 23), [], [.t 2], [], [], .cp, some (22, false)⟩,
 ⟨(some 24), [], [.t 23, .c (.int .i64 255)], [], [], .bini .gtr, some (22, false)⟩,
 ⟨(some 25), [], [.t 22, .c (.bool true), .t 24], [], [], .pick, none⟩,
 ⟨(some 26), [], [.t 25], [], [], .cp, none⟩,
 ⟨(some 27), [], [.t 7], [], [], .faddr 2, some (26, false)⟩,
 ⟨(some 28), [], [.t 27], [7], [], .load false 1, some (26, false)⟩,
 ⟨(some 29), [], [.t 28, .c (.str [])], [], [], .bins .eql, some (26, false)⟩,
 ⟨(some 30), [], [.t 26, .c (.bool true), .t 29], [], [], .pick, none⟩] [20, 21, 22, 23, 24, 25, 26, 27, 28, 29] [])
 (.cond (.t 30)
 (.seq
 (.reg [⟨(some 6), [], [.c (.int .i64 2)], [], [], .cp, none⟩] [] [])
 .ret)
 .skip))
 (.seq
 (.reg [⟨(some 31), [], [.t 7], [], [], .faddr 2, none⟩,
 ⟨(some 32), [], [.t 31], [7], [], .load false 1, none⟩,
 ⟨(some 33), [], [.t 7], [], [], .faddr 2, none⟩,
 ⟨(some 34), [], [.t 33], [7], [], .load false 1, none⟩,
 ⟨(some 35), [], [.t 34], [], [], .len true, none⟩,
 ⟨(some 36), [], [.t 35, .c (.int .i64 1)], [], [], .bini .sub, none⟩,
 ⟨(some 37), [], [.t 2], [], [], .cp, none⟩,
 ⟨(some 38), [], [.t 37], [], [], .conv .u8, none⟩,
 ⟨(some 39), [], [.c (.fn (F n_pref01_Changed)), .t 32, .t 36, .t 38], [], [], .call 0 false, none⟩,
 ⟨(some 40), [], [.t 7], [], [], .faddr 2, none⟩,
 ⟨none, [39], [.t 40, .t 39], [], [7], .store false 1, none⟩] [31, 32, 33, 34, 35, 36, 37, 38, 39, 40] [])
 (.seq
 (.reg [⟨(some 8), [], [], [], [], .nilsx 3, none⟩] [] [])
 (.seq
 (.reg [⟨(some 41), [8], [.t 8], [], [], .mv, none⟩,
 ⟨(some 42), [], [.t 0], [], [], .cp, none⟩,
 ⟨(some 43), [], [.t 42], [], [], .nilck, none⟩,
 ⟨(some 44), [], [.t 43], [], [], .faddr 0, none⟩,
 ⟨(some 45), [], [.t 44], [0], [], .load false 1, none⟩,
 ⟨(some 46), [41], [.t 41, .t 45], [], [], .appendx 3 32, none⟩,
 ⟨(some 8), [46], [.t 46], [], [], .mv, none⟩] [41, 42, 43, 44, 45, 46] [])
 (.seq
 (.seq (.reg [⟨(some 47), [8], [.t 8], [], [47], .openx, none⟩,
 ⟨(some 48), [], [.t 1], [], [], .cp, none⟩,
 ⟨(some 49), [], [.t 7], [7], [], .load true 3, none⟩,
 ⟨(some 50), [], [.t 47, .t 48], [], [], .iaddr none 3, none⟩,
 ⟨none, [49], [.t 50, .t 49], [], [47], .store true 3, none⟩] [47, 48, 49, 50] []) (.close 8 47 3))
 (.seq
 (.reg [⟨(some 51), [], [.t 0], [], [], .cp, none⟩,
 ⟨(some 52), [8], [.t 8], [], [], .pub, none⟩,
 ⟨(some 53), [], [.t 51], [], [], .nilck, none⟩,
 ⟨(some 54), [], [.t 53], [], [], .faddr 0, none⟩,
 ⟨none, [52], [.t 54, .t 52], [], [0], .store false 1, none⟩] [51, 52, 53, 54] [])
 (.seq
 (.reg [⟨(some 6), [], [.c (.int .i64 0)], [], [], .cp, none⟩] [] [])
 .ret)))))))))) }

def H_pref31_Net_Is : Hints := [(1, { ops := [(7, { mr := [0] })], kt := [5, 6, 7, 8, 9, 10, 11, 12, 13, 14, 15], kb := [] })]
def c_pref31_Net_Is (F : Nat → FuncId) : AFun := { nparams := 2, ntmps := 16, results := [.tmp 4], body :=
 (.seq
 (.reg [⟨(some 4), [], [.c (.bool false)], [], [], .cp, none⟩] [] [])
 (.seq
 (.reg [⟨(some 5), [], [.t 1], [], [], .cp, none⟩,
 ⟨(some 6), [], [.t 5, .c (.int .i64 0)], [], [], .bini .geq, none⟩,
 ⟨(some 7), [], [.t 6], [], [], .cp, none⟩,
 ⟨(some 8), [], [.t 1], [], [], .cp, some (7, true)⟩,
 ⟨(some 9), [], [.t 0], [], [], .cp, some (7, true)⟩,
 ⟨(some 10), [], [.t 9], [], [], .nilck, some (7, true)⟩,
 ⟨(some 11), [], [.t 10], [], [], .faddr 0, some (7, true)⟩,
 ⟨(some 12), [], [.t 11], [0], [], .load false 1, some (7, true)⟩,
 ⟨(some 13), [], [.t 12], [], [], .len false, some (7, true)⟩,
 ⟨(some 14), [], [.t 8, .t 13], [], [], .bini .lss, some (7, true)⟩,
 ⟨(some 15), [], [.t 7, .t 14, .c (.bool false)], [], [], .pick, none⟩,
 ⟨(some 4), [15], [.t 15], [], [], .mv, none⟩] [5, 6, 7, 8, 9, 10, 11, 12, 13, 14, 15] [])
 .ret)) }

def H_net_Net_is : Hints := [(1, { ops := [(5, { mw := [0], nref := 1 })], kt := [5, 6, 7, 8, 9, 10, 11, 12], kb := [] })]
def c_net_Net_is (F : Nat → FuncId) : AFun := { nparams := 2, ntmps := 13, results := [.tmp 4], body :=
 (.seq
 (.reg [⟨(some 4), [], [.c (.bool false)], [], [], .cp, none⟩] [] [])
 (.seq
 (.reg [⟨(some 5), [], [.t 1], [], [], .cp, none⟩,
 ⟨(some 6), [], [.t 5, .c (.int .i64 0)], [], [], .bini .geq, none⟩,
 ⟨(some 7), [], [.t 6], [], [], .cp, none⟩,
 ⟨(some 8), [], [.t 1], [], [], .cp, some (7, true)⟩,
 ⟨(some 9), [], [.t 0], [], [], .cp, some (7, true)⟩,
 ⟨(some 10), [], [.c (.fn (F n_net_Net_Len)), .t 9], [], [0], .call 1 false, some (7, true)⟩,
 ⟨(some 11), [], [.t 8, .t 10], [], [], .bini .lss, some (7, true)⟩,
 ⟨(some 12), [], [.t 7, .t 11, .c (.bool false)], [], [], .pick, none⟩,
 ⟨(some 4), [12], [.t 12], [], [], .mv, none⟩] [5, 6, 7, 8, 9, 10, 11, 12] [])
 .ret)) }

def H_net_Net_is__nil : Hints := [(1, { ops := [], kt := [5, 6, 7, 8, 9, 10, 11, 12], kb := [] })]
def c_net_Net_is__nil (F : Nat → FuncId) : AFun := { nparams := 2, ntmps := 13, results := [.tmp 4], body :=
 (.seq
 (.reg [⟨(some 4), [], [.c (.bool false)], [], [], .cp, none⟩] [] [])
 (.seq
 (.reg [⟨(some 5), [], [.t 1], [], [], .cp, none⟩,
 ⟨(some 6), [], [.t 5, .c (.int .i64 0)], [], [], .bini .geq, none⟩,
 ⟨(some 7), [], [.t 6], [], [], .cp, none⟩,
 ⟨(some 8), [], [.t 1], [], [], .cp, some (7, true)⟩,
 ⟨(some 9), [], [.t 0], [], [], .cp, some (7, true)⟩,
 ⟨(some 10), [], [.c (.fn (F n_net_Net_Len)), .t 9], [], [], .call 0 false, some (7, true)⟩,
 ⟨(some 11), [], [.t 8, .t 10], [], [], .bini .lss, some (7, true)⟩,
 ⟨(some 12), [], [.t 7, .t 11, .c (.bool false)], [], [], .pick, none⟩,
 ⟨(some 4), [12], [.t 12], [], [], .mv, none⟩] [5, 6, 7, 8, 9, 10, 11, 12] [])
 .ret)) }

end Go.AR
