import Derived.Test.YtlhahjlnhkokcaaG02
import Derived.Test.YtlhahjlnhkokcaaG03
set_option linter.all false
/-! Codes, printed by program. -/
namespace Go.AR
def H_plaw31_NetNone : Hints := [(1, { ops := [(1, { mr := [3] })], kt := [14, 15, 16], kb := [] }),
 (2, { ops := [], kt := [18], kb := [] }),
 (4, { ops := [(7, { mw := [8] })], kt := [8, 19, 20, 21, 22, 23, 24], kb := [] }),
 (5, { ops := [(7, { mw := [10] })], kt := [10, 25, 26, 27, 28, 29, 30], kb := [] }),
 (6, { ops := [(6, { mr := [3] })], kt := [31, 32, 33, 34, 35, 36, 37, 38, 39, 40, 41, 42, 43, 44, 45, 46, 47, 48, 49, 50, 51, 52, 53, 54, 55, 56, 57], kb := [] }),
 (8, { ops := [(0, { mw := [59], new := true })], kt := [59], kb := [] }),
 (10, { ops := [], kt := [60], kb := [] }),
 (11, { ops := [], kt := [60, 61, 62, 63, 64, 65, 66, 67], kb := [] }),
 (12, { ops := [(1, { mr := [3] }), (2, { mw := [59], nref := 1 })], kt := [64, 65, 66], kb := [] }),
 (14, { ops := [(1, { mr := [3] }), (2, { mw := [59], nref := 1 }), (6, { mw := [59], nref := 1 }), (11, { mw := [59], nref := 1 })], kt := [68, 69, 70, 71, 72, 73, 74, 75, 76, 77, 78, 79, 80, 81, 82, 83, 84], kb := [] })]
def c_plaw31_NetNone (F : Nat → FuncId) : AFun := { nparams := 3, ntmps := 85, results := [.tmp 6], body :=
 (.seq
 (.reg [⟨(some 3), [], [.t 0], [], [3], .box, none⟩,
 ⟨(some 6), [], [.c (.bool false)], [], [], .cp, none⟩] [] [])
 (.seq
 (.seq
 (.reg [⟨(some 14), [], [.t 3], [], [], .faddr 2, none⟩,
 ⟨(some 15), [], [.t 14], [3], [], .load false 1, none⟩,
 ⟨(some 16), [], [.t 15], [], [], .len true, none⟩,
 ⟨(some 17), [], [.t 16, .c (.int .i64 300)], [], [], .bini .gtr, none⟩] [14, 15, 16] [])
 (.cond (.t 17)
 (.seq
 (.reg [⟨(some 18), [], [.c (.fn (F n_plaw31_awake))], [], [], .call 0 false, none⟩,
 ⟨(some 6), [18], [.t 18], [], [], .mv, none⟩] [18] [])
 .ret)
 .skip))
 (.seq
 (.reg [⟨(some 7), [], [.c (.nilp)], [], [], .cp, none⟩] [] [])
 (.seq
 (.reg [⟨(some 20), [], [.t 7], [], [], .cp, none⟩,
 ⟨(some 21), [], [.t 1], [], [], .cp, none⟩,
 ⟨(some 22), [], [.c (.fn (F n_net_Net_Take)), .t 20, .t 21], [], [], .call 0 false, none⟩,
 ⟨(some 19), [], [.t 22], [], [], .cp, none⟩,
 ⟨(some 23), [], [.t 19], [], [], .extract 0, none⟩,
 ⟨(some 24), [], [.t 19], [], [], .extract 1, none⟩,
 ⟨(some 8), [], [], [], [8], .alloc [.val (.int .i64 0), .val (.int .i64 0), .val (.str [])], none⟩,
 ⟨none, [23], [.t 8, .t 23], [], [8], .store true 3, none⟩,
 ⟨(some 9), [24], [.t 24], [], [], .mv, none⟩] [8, 19, 20, 21, 22, 23, 24] [])
 (.seq
 (.reg [⟨(some 26), [], [.t 7], [], [], .cp, none⟩,
 ⟨(some 27), [], [.t 1], [], [], .cp, none⟩,
 ⟨(some 28), [], [.c (.fn (F n_net_Net_Look)), .t 26, .t 27], [], [], .call 0 false, none⟩,
 ⟨(some 25), [], [.t 28], [], [], .cp, none⟩,
 ⟨(some 29), [], [.t 25], [], [], .extract 0, none⟩,
 ⟨(some 30), [], [.t 25], [], [], .extract 1, none⟩,
 ⟨(some 10), [], [], [], [10], .alloc [.val (.int .i64 0), .val (.int .i64 0), .val (.str [])], none⟩,
 ⟨none, [29], [.t 10, .t 29], [], [10], .store true 3, none⟩,
 ⟨(some 11), [30], [.t 30], [], [], .mv, none⟩] [10, 25, 26, 27, 28, 29, 30] [])
 (.seq
 (.seq
 (.reg [⟨(some 31), [], [.t 9], [], [], .cp, none⟩,
 ⟨(some 32), [], [.t 31], [], [], .cp, none⟩,
 ⟨(some 33), [], [.t 11], [], [], .cp, some (32, false)⟩,
 ⟨(some 34), [], [.t 32, .c (.bool true), .t 33], [], [], .pick, none⟩,
 ⟨(some 35), [], [.t 34], [], [], .cp, none⟩,
 ⟨(some 36), [], [.t 7], [], [], .cp, some (35, false)⟩,
 ⟨(some 37), [], [.t 3], [3], [], .load true 3, some (35, false)⟩,
 ⟨(some 38), [], [.c (.fn (F n_net_Net_Send)), .t 36, .t 37], [], [], .call 0 false, some (35, false)⟩,
 ⟨(some 39), [], [.t 38, .c (.int .i64 1)], [], [], .bini .neq, some (35, false)⟩,
 ⟨(some 40), [], [.t 35, .c (.bool true), .t 39], [], [], .pick, none⟩,
 ⟨(some 41), [], [.t 40], [], [], .cp, none⟩,
 ⟨(some 42), [], [.t 7], [], [], .cp, some (41, false)⟩,
 ⟨(some 43), [], [.t 1], [], [], .cp, some (41, false)⟩,
 ⟨(some 44), [], [.c (.fn (F n_net_Net_Twice)), .t 42, .t 43], [], [], .call 0 false, some (41, false)⟩,
 ⟨(some 45), [], [.t 44, .c (.int .i64 1)], [], [], .bini .neq, some (41, false)⟩,
 ⟨(some 46), [], [.t 41, .c (.bool true), .t 45], [], [], .pick, none⟩,
 ⟨(some 47), [], [.t 46], [], [], .cp, none⟩,
 ⟨(some 48), [], [.t 7], [], [], .cp, some (47, false)⟩,
 ⟨(some 49), [], [.t 1], [], [], .cp, some (47, false)⟩,
 ⟨(some 50), [], [.t 2], [], [], .cp, some (47, false)⟩,
 ⟨(some 51), [], [.c (.fn (F n_net_Net_Spoil)), .t 48, .t 49, .t 50], [], [], .call 0 false, some (47, false)⟩,
 ⟨(some 52), [], [.t 51, .c (.int .i64 1)], [], [], .bini .neq, some (47, false)⟩,
 ⟨(some 53), [], [.t 47, .c (.bool true), .t 52], [], [], .pick, none⟩,
 ⟨(some 54), [], [.t 53], [], [], .cp, none⟩,
 ⟨(some 55), [], [.t 7], [], [], .cp, some (54, false)⟩,
 ⟨(some 56), [], [.c (.fn (F n_net_Net_Len)), .t 55], [], [], .call 0 false, some (54, false)⟩,
 ⟨(some 57), [], [.t 56, .c (.int .i64 0)], [], [], .bini .neq, some (54, false)⟩,
 ⟨(some 58), [], [.t 54, .c (.bool true), .t 57], [], [], .pick, none⟩] [31, 32, 33, 34, 35, 36, 37, 38, 39, 40, 41, 42, 43, 44, 45, 46, 47, 48, 49, 50, 51, 52, 53, 54, 55, 56, 57] [])
 (.cond (.t 58)
 (.seq
 (.reg [⟨(some 6), [], [.c (.bool false)], [], [], .cp, none⟩] [] [])
 .ret)
 .skip))
 (.seq
 (.reg [⟨(some 59), [], [.c (.fn (F n_net_New))], [], [59], .call 0 true, none⟩,
 ⟨(some 12), [59], [.t 59], [], [], .mv, none⟩] [59] [])
 (.seq
 (.seq
 (.reg [⟨(some 13), [], [.c (.int .i64 0)], [], [], .cp, none⟩] [] [])
 (.block 0
 (.loop
 (.seq
 (.seq
 (.reg [⟨(some 60), [], [.t 13], [], [], .cp, none⟩,
 ⟨(some 61), [], [.t 60, .c (.int .i64 200)], [], [], .bini .lss, none⟩] [60] [])
 (.cond (.t 61)
 .skip
 (.exit 0)))
 (.seq
 (.block 1
 (.seq
 (.reg [⟨(some 64), [], [.t 12], [], [], .cp, none⟩,
 ⟨(some 65), [], [.t 3], [3], [], .load true 3, none⟩,
 ⟨(some 66), [], [.c (.fn (F n_net_Net_Send)), .t 64, .t 65], [], [59], .call 1 false, none⟩,
 ⟨(some 67), [], [.t 66, .c (.int .i64 0)], [], [], .bini .neq, none⟩] [64, 65, 66] [])
 (.cond (.t 67)
 (.seq
 (.reg [⟨(some 6), [], [.c (.bool false)], [], [], .cp, none⟩] [] [])
 .ret)
 .skip)))
 (.reg [⟨(some 62), [], [.t 13], [], [], .cp, none⟩,
 ⟨(some 63), [], [.t 62, .c (.int .i64 1)], [], [], .bini .add, none⟩,
 ⟨(some 13), [63], [.t 63], [], [], .mv, none⟩] [60, 61, 62, 63, 64, 65, 66, 67] []))))))
 (.seq
 (.reg [⟨(some 68), [], [.t 12], [], [], .cp, none⟩,
 ⟨(some 69), [], [.t 3], [3], [], .load true 3, none⟩,
 ⟨(some 70), [], [.c (.fn (F n_net_Net_Send)), .t 68, .t 69], [], [59], .call 1 false, none⟩,
 ⟨(some 71), [], [.t 70, .c (.int .i64 7)], [], [], .bini .eql, none⟩,
 ⟨(some 72), [], [.t 71], [], [], .cp, none⟩,
 ⟨(some 73), [], [.t 12], [], [], .cp, some (72, true)⟩,
 ⟨(some 74), [], [.c (.fn (F n_net_Net_Twice)), .t 73, .c (.int .i64 3)], [], [59], .call 1 false, some (72, true)⟩,
 ⟨(some 75), [], [.t 74, .c (.int .i64 7)], [], [], .bini .eql, some (72, true)⟩,
 ⟨(some 76), [], [.t 72, .t 75, .c (.bool false)], [], [], .pick, none⟩,
 ⟨(some 77), [], [.t 76], [], [], .cp, none⟩,
 ⟨(some 78), [], [.t 12], [], [], .cp, some (77, true)⟩,
 ⟨(some 79), [], [.c (.fn (F n_net_Net_Len)), .t 78], [], [59], .call 1 false, some (77, true)⟩,
 ⟨(some 80), [], [.t 79, .c (.int .i64 200)], [], [], .bini .eql, some (77, true)⟩,
 ⟨(some 81), [], [.t 77, .t 80, .c (.bool false)], [], [], .pick, none⟩,
 ⟨(some 82), [], [.t 81], [], [], .cp, none⟩,
 ⟨(some 83), [], [.c (.fn (F n_plaw31_awake))], [], [], .call 0 false, some (82, true)⟩,
 ⟨(some 84), [], [.t 82, .t 83, .c (.bool false)], [], [], .pick, none⟩,
 ⟨(some 6), [84], [.t 84], [], [], .mv, none⟩] [68, 69, 70, 71, 72, 73, 74, 75, 76, 77, 78, 79, 80, 81, 82, 83, 84] [])
 .ret))))))))) }

def H_plaw31_awake : Hints := [(1, { ops := [(0, { mw := [9], new := true })], kt := [9], kb := [] }),
 (2, { ops := [(2, { mw := [9], nref := 1 }), (5, { mw := [9], nref := 1 }), (8, { mw := [9], nref := 1 })], kt := [10, 11, 12, 13, 14, 15, 16, 17, 18], kb := [] }),
 (3, { ops := [(1, { mw := [9], nref := 1 }), (6, { mw := [5] })], kt := [19, 20, 21, 22, 23], kb := [] }),
 (4, { ops := [(1, { mw := [9], nref := 1 }), (6, { mw := [7] })], kt := [24, 25, 26, 27, 28], kb := [] }),
 (5, { ops := [(17, { mr := [5] }), (25, { mr := [7] }), (30, { mw := [9], nref := 1 })], kt := [29, 30, 31, 32, 33, 34, 35, 36, 37, 38, 39, 40, 41, 42, 43, 44, 45, 46, 47, 48, 49, 50, 51, 52, 53, 54, 55, 56, 57, 58, 59, 60, 61], kb := [] })]
def c_plaw31_awake (F : Nat → FuncId) : AFun := { nparams := 0, ntmps := 62, results := [.tmp 0], body :=
 (.seq
 (.reg [⟨(some 0), [], [.c (.bool false)], [], [], .cp, none⟩] [] [])
 (.seq
 (.reg [⟨(some 9), [], [.c (.fn (F n_net_New))], [], [9], .call 0 true, none⟩,
 ⟨(some 1), [9], [.t 9], [], [], .mv, none⟩] [9] [])
 (.seq
 (.reg [⟨(some 10), [], [.t 1], [], [], .cp, none⟩,
 ⟨(some 11), [], [.c (.str [97])], [], [], .build [.int .i64 0, .int .i64 0, .str []] [(2, 1)], none⟩,
 ⟨(some 12), [], [.c (.fn (F n_net_Net_Send)), .t 10, .t 11], [], [9], .call 1 false, none⟩,
 ⟨(some 13), [], [.t 1], [], [], .cp, none⟩,
 ⟨(some 14), [], [.c (.str [98])], [], [], .build [.int .i64 0, .int .i64 0, .str []] [(2, 1)], none⟩,
 ⟨(some 15), [], [.c (.fn (F n_net_Net_Send)), .t 13, .t 14], [], [9], .call 1 false, none⟩,
 ⟨(some 16), [], [.t 1], [], [], .cp, none⟩,
 ⟨(some 17), [], [.c (.str [99])], [], [], .build [.int .i64 0, .int .i64 0, .str []] [(2, 1)], none⟩,
 ⟨(some 18), [], [.c (.fn (F n_net_Net_Send)), .t 16, .t 17], [], [9], .call 1 false, none⟩,
 ⟨(some 2), [12], [.t 12], [], [], .mv, none⟩,
 ⟨(some 3), [15], [.t 15], [], [], .mv, none⟩,
 ⟨(some 4), [18], [.t 18], [], [], .mv, none⟩] [10, 11, 12, 13, 14, 15, 16, 17, 18] [])
 (.seq
 (.reg [⟨(some 20), [], [.t 1], [], [], .cp, none⟩,
 ⟨(some 21), [], [.c (.fn (F n_net_Net_Take)), .t 20, .c (.int .i64 1)], [], [9], .call 1 false, none⟩,
 ⟨(some 19), [], [.t 21], [], [], .cp, none⟩,
 ⟨(some 22), [], [.t 19], [], [], .extract 0, none⟩,
 ⟨(some 23), [], [.t 19], [], [], .extract 1, none⟩,
 ⟨(some 5), [], [], [], [5], .alloc [.val (.int .i64 0), .val (.int .i64 0), .val (.str [])], none⟩,
 ⟨none, [22], [.t 5, .t 22], [], [5], .store true 3, none⟩,
 ⟨(some 6), [23], [.t 23], [], [], .mv, none⟩] [19, 20, 21, 22, 23] [])
 (.seq
 (.reg [⟨(some 25), [], [.t 1], [], [], .cp, none⟩,
 ⟨(some 26), [], [.c (.fn (F n_net_Net_Look)), .t 25, .c (.int .i64 1)], [], [9], .call 1 false, none⟩,
 ⟨(some 24), [], [.t 26], [], [], .cp, none⟩,
 ⟨(some 27), [], [.t 24], [], [], .extract 0, none⟩,
 ⟨(some 28), [], [.t 24], [], [], .extract 1, none⟩,
 ⟨(some 7), [], [], [], [7], .alloc [.val (.int .i64 0), .val (.int .i64 0), .val (.str [])], none⟩,
 ⟨none, [27], [.t 7, .t 27], [], [7], .store true 3, none⟩,
 ⟨(some 8), [28], [.t 28], [], [], .mv, none⟩] [24, 25, 26, 27, 28] [])
 (.seq
 (.reg [⟨(some 29), [], [.t 2], [], [], .cp, none⟩,
 ⟨(some 30), [], [.t 29, .c (.int .i64 0)], [], [], .bini .eql, none⟩,
 ⟨(some 31), [], [.t 30], [], [], .cp, none⟩,
 ⟨(some 32), [], [.t 3], [], [], .cp, some (31, true)⟩,
 ⟨(some 33), [], [.t 2], [], [], .cp, some (31, true)⟩,
 ⟨(some 34), [], [.t 32, .t 33], [], [], .bini .eql, some (31, true)⟩,
 ⟨(some 35), [], [.t 31, .t 34, .c (.bool false)], [], [], .pick, none⟩,
 ⟨(some 36), [], [.t 35], [], [], .cp, none⟩,
 ⟨(some 37), [], [.t 4], [], [], .cp, some (36, true)⟩,
 ⟨(some 38), [], [.t 2], [], [], .cp, some (36, true)⟩,
 ⟨(some 39), [], [.t 37, .t 38], [], [], .bini .eql, some (36, true)⟩,
 ⟨(some 40), [], [.t 36, .t 39, .c (.bool false)], [], [], .pick, none⟩,
 ⟨(some 41), [], [.t 40], [], [], .cp, none⟩,
 ⟨(some 42), [], [.t 6], [], [], .cp, some (41, true)⟩,
 ⟨(some 43), [], [.t 41, .t 42, .c (.bool false)], [], [], .pick, none⟩,
 ⟨(some 44), [], [.t 43], [], [], .cp, none⟩,
 ⟨(some 45), [], [.t 5], [], [], .faddr 2, some (44, true)⟩,
 ⟨(some 46), [], [.t 45], [5], [], .load false 1, some (44, true)⟩,
 ⟨(some 47), [], [.t 46, .c (.str [98])], [], [], .bins .eql, some (44, true)⟩,
 ⟨(some 48), [], [.t 44, .t 47, .c (.bool false)], [], [], .pick, none⟩,
 ⟨(some 49), [], [.t 48], [], [], .cp, none⟩,
 ⟨(some 50), [], [.t 8], [], [], .cp, some (49, true)⟩,
 ⟨(some 51), [], [.t 49, .t 50, .c (.bool false)], [], [], .pick, none⟩,
 ⟨(some 52), [], [.t 51], [], [], .cp, none⟩,
 ⟨(some 53), [], [.t 7], [], [], .faddr 2, some (52, true)⟩,
 ⟨(some 54), [], [.t 53], [7], [], .load false 1, some (52, true)⟩,
 ⟨(some 55), [], [.t 54, .c (.str [99])], [], [], .bins .eql, some (52, true)⟩,
 ⟨(some 56), [], [.t 52, .t 55, .c (.bool false)], [], [], .pick, none⟩,
 ⟨(some 57), [], [.t 56], [], [], .cp, none⟩,
 ⟨(some 58), [], [.t 1], [], [], .cp, some (57, true)⟩,
 ⟨(some 59), [], [.c (.fn (F n_net_Net_Len)), .t 58], [], [9], .call 1 false, some (57, true)⟩,
 ⟨(some 60), [], [.t 59, .c (.int .i64 2)], [], [], .bini .eql, some (57, true)⟩,
 ⟨(some 61), [], [.t 57, .t 60, .c (.bool false)], [], [], .pick, none⟩,
 ⟨(some 0), [61], [.t 61], [], [], .mv, none⟩] [29, 30, 31, 32, 33, 34, 35, 36, 37, 38, 39, 40, 41, 42, 43, 44, 45, 46, 47, 48, 49, 50, 51, 52, 53, 54, 55, 56, 57, 58, 59, 60, 61] [])
 .ret)))))) }

def H_net_New : Hints := [(1, { ops := [(0, { x := 5 }), (1, { x := 5 })], kt := [1, 2], kb := [] })]
def c_net_New (F : Nat → FuncId) : AFun := { nparams := 0, ntmps := 3, results := [.tmp 0], body :=
 (.seq
 (.reg [⟨(some 0), [], [.c (.nilp)], [], [], .cp, none⟩] [] [])
 (.seq
 (.reg [⟨(some 1), [], [], [], [], .buildt [.sl 3 []] [], none⟩,
 ⟨(some 2), [], [.t 1], [], [2], .boxt, none⟩,
 ⟨(some 0), [2], [.t 2], [], [], .mv, none⟩] [1, 2] [])
 .ret)) }

def H_net_Net_Send : Hints := [(1, { ops := [], kt := [6, 7], kb := [] }),
 (3, { ops := [(3, { mr := [0] })], kt := [9, 10, 11, 12, 13, 14], kb := [] }),
 (5, { ops := [(4, { take := true, mw := [0] }), (5, { mr := [3] }), (10, { mw := [0] })], kt := [15, 16, 17, 18, 19, 20, 21, 22, 23, 24], kb := [] })]
def c_net_Net_Send (F : Nat → FuncId) : AFun := { nparams := 2, ntmps := 25, results := [.tmp 4], body :=
 (.seq
 (.reg [⟨(some 3), [], [.t 1], [], [3], .box, none⟩,
 ⟨(some 4), [], [.c (.int .i64 0)], [], [], .cp, none⟩] [] [])
 (.seq
 (.block 0
 (.seq
 (.reg [⟨(some 6), [], [.t 0], [], [], .cp, none⟩,
 ⟨(some 7), [], [.t 6, .c (.nilp)], [], [], .eqn false, none⟩,
 ⟨(some 5), [7], [.t 7], [], [], .mv, none⟩] [6, 7] [])
 (.cond (.t 5)
 (.seq
 (.reg [⟨(some 4), [], [.c (.int .i64 1)], [], [], .cp, none⟩] [] [])
 .ret)
 (.seq
 (.reg [⟨(some 9), [], [.t 0], [], [], .cp, none⟩,
 ⟨(some 10), [], [.t 9], [], [], .nilck, none⟩,
 ⟨(some 11), [], [.t 10], [], [], .faddr 0, none⟩,
 ⟨(some 12), [], [.t 11], [0], [], .load false 1, none⟩,
 ⟨(some 13), [], [.t 12], [], [], .len false, none⟩,
 ⟨(some 14), [], [.t 13, .c (.int .i64 200)], [], [], .bini .geq, none⟩,
 ⟨(some 8), [14], [.t 14], [], [], .mv, none⟩] [9, 10, 11, 12, 13, 14] [])
 (.cond (.t 8)
 (.seq
 (.reg [⟨(some 4), [], [.c (.int .i64 7)], [], [], .cp, none⟩] [] [])
 .ret)
 .skip)))))
 (.seq
 (.reg [⟨(some 15), [], [.t 0], [], [], .cp, none⟩,
 ⟨(some 16), [], [.t 0], [], [], .cp, none⟩,
 ⟨(some 17), [], [.t 16], [], [], .nilck, none⟩,
 ⟨(some 18), [], [.t 17], [], [], .faddr 0, none⟩,
 ⟨(some 19), [], [.t 18], [], [0], .ltake, none⟩,
 ⟨(some 20), [], [.t 3], [3], [], .load true 3, none⟩,
 ⟨(some 21), [], [.t 20], [], [], .bslice 3 [.int .i64 0, .int .i64 0, .str []] [(0, 3)], none⟩,
 ⟨(some 22), [19], [.t 19, .t 21], [], [], .append 3 32, none⟩,
 ⟨(some 23), [], [.t 15], [], [], .nilck, none⟩,
 ⟨(some 24), [], [.t 23], [], [], .faddr 0, none⟩,
 ⟨none, [22], [.t 24, .t 22], [], [0], .store false 1, none⟩] [15, 16, 17, 18, 19, 20, 21, 22, 23, 24] [])
 (.seq
 (.reg [⟨(some 4), [], [.c (.int .i64 0)], [], [], .cp, none⟩] [] [])
 .ret)))) }

def H_net_Net_Send__nil : Hints := [(1, { ops := [], kt := [6, 7], kb := [] }),
 (3, { ops := [], kt := [9, 10, 11, 12, 13, 14], kb := [] }),
 (5, { ops := [(5, { mr := [3] })], kt := [15, 16, 17, 18, 19, 20, 21, 22, 23, 24], kb := [] })]
def c_net_Net_Send__nil (F : Nat → FuncId) : AFun := { nparams := 2, ntmps := 25, results := [.tmp 4], body :=
 (.seq
 (.reg [⟨(some 3), [], [.t 1], [], [3], .box, none⟩,
 ⟨(some 4), [], [.c (.int .i64 0)], [], [], .cp, none⟩] [] [])
 (.seq
 (.block 0
 (.seq
 (.reg [⟨(some 6), [], [.t 0], [], [], .cp, none⟩,
 ⟨(some 7), [], [.t 6, .c (.nilp)], [], [], .eqn false, none⟩,
 ⟨(some 5), [7], [.t 7], [], [], .mv, none⟩] [6, 7] [])
 (.cond (.t 5)
 (.seq
 (.reg [⟨(some 4), [], [.c (.int .i64 1)], [], [], .cp, none⟩] [] [])
 .ret)
 (.seq
 (.reg [⟨(some 9), [], [.t 0], [], [], .cp, none⟩,
 ⟨(some 10), [], [.t 9], [], [], .nilck, none⟩,
 ⟨(some 11), [], [.t 10], [], [], .faddr 0, none⟩,
 ⟨(some 12), [], [.t 11], [], [], .load false 1, none⟩,
 ⟨(some 13), [], [.t 12], [], [], .len false, none⟩,
 ⟨(some 14), [], [.t 13, .c (.int .i64 200)], [], [], .bini .geq, none⟩,
 ⟨(some 8), [14], [.t 14], [], [], .mv, none⟩] [9, 10, 11, 12, 13, 14] [])
 (.cond (.t 8)
 (.seq
 (.reg [⟨(some 4), [], [.c (.int .i64 7)], [], [], .cp, none⟩] [] [])
 .ret)
 .skip)))))
 (.seq
 (.reg [⟨(some 15), [], [.t 0], [], [], .cp, none⟩,
 ⟨(some 16), [], [.t 0], [], [], .cp, none⟩,
 ⟨(some 17), [], [.t 16], [], [], .nilck, none⟩,
 ⟨(some 18), [], [.t 17], [], [], .faddr 0, none⟩,
 ⟨(some 19), [], [.t 18], [], [], .load false 1, none⟩,
 ⟨(some 20), [], [.t 3], [3], [], .load true 3, none⟩,
 ⟨(some 21), [], [.t 20], [], [], .bslice 3 [.int .i64 0, .int .i64 0, .str []] [(0, 3)], none⟩,
 ⟨(some 22), [19], [.t 19, .t 21], [], [], .append 3 32, none⟩,
 ⟨(some 23), [], [.t 15], [], [], .nilck, none⟩,
 ⟨(some 24), [], [.t 23], [], [], .faddr 0, none⟩,
 ⟨none, [22], [.t 24, .t 22], [], [], .store false 1, none⟩] [15, 16, 17, 18, 19, 20, 21, 22, 23, 24] [])
 (.seq
 (.reg [⟨(some 4), [], [.c (.int .i64 0)], [], [], .cp, none⟩] [] [])
 .ret)))) }

def H_net_Net_Len : Hints := [(1, { ops := [], kt := [3], kb := [] }),
 (3, { ops := [(3, { mr := [0] })], kt := [5, 6, 7, 8, 9], kb := [] })]
def c_net_Net_Len (F : Nat → FuncId) : AFun := { nparams := 1, ntmps := 10, results := [.tmp 2], body :=
 (.seq
 (.reg [⟨(some 2), [], [.c (.int .i64 0)], [], [], .cp, none⟩] [] [])
 (.seq
 (.seq
 (.reg [⟨(some 3), [], [.t 0], [], [], .cp, none⟩,
 ⟨(some 4), [], [.t 3, .c (.nilp)], [], [], .eqn false, none⟩] [3] [])
 (.cond (.t 4)
 (.seq
 (.reg [⟨(some 2), [], [.c (.int .i64 0)], [], [], .cp, none⟩] [] [])
 .ret)
 .skip))
 (.seq
 (.reg [⟨(some 5), [], [.t 0], [], [], .cp, none⟩,
 ⟨(some 6), [], [.t 5], [], [], .nilck, none⟩,
 ⟨(some 7), [], [.t 6], [], [], .faddr 0, none⟩,
 ⟨(some 8), [], [.t 7], [0], [], .load false 1, none⟩,
 ⟨(some 9), [], [.t 8], [], [], .len false, none⟩,
 ⟨(some 2), [9], [.t 9], [], [], .mv, none⟩] [5, 6, 7, 8, 9] [])
 .ret))) }

def H_net_Net_Len__nil : Hints := [(1, { ops := [], kt := [3], kb := [] }),
 (3, { ops := [], kt := [5, 6, 7, 8, 9], kb := [] })]
def c_net_Net_Len__nil (F : Nat → FuncId) : AFun := { nparams := 1, ntmps := 10, results := [.tmp 2], body :=
 (.seq
 (.reg [⟨(some 2), [], [.c (.int .i64 0)], [], [], .cp, none⟩] [] [])
 (.seq
 (.seq
 (.reg [⟨(some 3), [], [.t 0], [], [], .cp, none⟩,
 ⟨(some 4), [], [.t 3, .c (.nilp)], [], [], .eqn false, none⟩] [3] [])
 (.cond (.t 4)
 (.seq
 (.reg [⟨(some 2), [], [.c (.int .i64 0)], [], [], .cp, none⟩] [] [])
 .ret)
 .skip))
 (.seq
 (.reg [⟨(some 5), [], [.t 0], [], [], .cp, none⟩,
 ⟨(some 6), [], [.t 5], [], [], .nilck, none⟩,
 ⟨(some 7), [], [.t 6], [], [], .faddr 0, none⟩,
 ⟨(some 8), [], [.t 7], [], [], .load false 1, none⟩,
 ⟨(some 9), [], [.t 8], [], [], .len false, none⟩,
 ⟨(some 2), [9], [.t 9], [], [], .mv, none⟩] [5, 6, 7, 8, 9] [])
 .ret))) }

def H_net_Net_Look : Hints := [(1, { ops := [(2, { mw := [0], nref := 1 })], kt := [6, 7, 8], kb := [] }),
 (2, { ops := [(1, { mw := [4] })], kt := [10], kb := [] }),
 (3, { ops := [(3, { mr := [0] }), (7, { mw := [4] })], kt := [11, 12, 13, 14, 15, 16, 17], kb := [] })]
def c_net_Net_Look (F : Nat → FuncId) : AFun := { nparams := 2, ntmps := 18, results := [.cell 4 true 3, .tmp 5], body :=
 (.seq
 (.reg [⟨(some 4), [], [], [], [4], .alloc [.val (.int .i64 0), .val (.int .i64 0), .val (.str [])], none⟩,
 ⟨(some 5), [], [.c (.bool false)], [], [], .cp, none⟩] [] [])
 (.seq
 (.seq
 (.reg [⟨(some 6), [], [.t 0], [], [], .cp, none⟩,
 ⟨(some 7), [], [.t 1], [], [], .cp, none⟩,
 ⟨(some 8), [], [.c (.fn (F n_net_Net_is)), .t 6, .t 7], [], [0], .call 1 false, none⟩,
 ⟨(some 9), [], [.t 8], [], [], .not, none⟩] [6, 7, 8] [])
 (.cond (.t 9)
 (.seq
 (.reg [⟨(some 10), [], [], [], [], .build [.int .i64 0, .int .i64 0, .str []] [], none⟩,
 ⟨none, [10], [.t 4, .t 10], [], [4], .store true 3, none⟩,
 ⟨(some 5), [], [.c (.bool false)], [], [], .cp, none⟩] [10] [])
 .ret)
 .skip))
 (.seq
 (.reg [⟨(some 11), [], [.t 0], [], [], .cp, none⟩,
 ⟨(some 12), [], [.t 11], [], [], .nilck, none⟩,
 ⟨(some 13), [], [.t 12], [], [], .faddr 0, none⟩,
 ⟨(some 14), [], [.t 13], [0], [], .load false 1, none⟩,
 ⟨(some 15), [], [.t 1], [], [], .cp, none⟩,
 ⟨(some 16), [], [.t 14, .t 15], [], [], .iaddr none 3, none⟩,
 ⟨(some 17), [], [.t 16], [], [], .load true 3, none⟩,
 ⟨none, [17], [.t 4, .t 17], [], [4], .store true 3, none⟩,
 ⟨(some 5), [], [.c (.bool true)], [], [], .cp, none⟩] [11, 12, 13, 14, 15, 16, 17] [])
 .ret))) }

def H_net_Net_Look__nil : Hints := [(1, { ops := [], kt := [6, 7, 8], kb := [] }),
 (2, { ops := [(1, { mw := [4] })], kt := [10], kb := [] }),
 (3, { ops := [(7, { mw := [4] })], kt := [11, 12, 13, 14, 15, 16, 17], kb := [] })]
def c_net_Net_Look__nil (F : Nat → FuncId) : AFun := { nparams := 2, ntmps := 18, results := [.cell 4 true 3, .tmp 5], body :=
 (.seq
 (.reg [⟨(some 4), [], [], [], [4], .alloc [.val (.int .i64 0), .val (.int .i64 0), .val (.str [])], none⟩,
 ⟨(some 5), [], [.c (.bool false)], [], [], .cp, none⟩] [] [])
 (.seq
 (.seq
 (.reg [⟨(some 6), [], [.t 0], [], [], .cp, none⟩,
 ⟨(some 7), [], [.t 1], [], [], .cp, none⟩,
 ⟨(some 8), [], [.c (.fn (F n_net_Net_is)), .t 6, .t 7], [], [], .call 0 false, none⟩,
 ⟨(some 9), [], [.t 8], [], [], .not, none⟩] [6, 7, 8] [])
 (.cond (.t 9)
 (.seq
 (.reg [⟨(some 10), [], [], [], [], .build [.int .i64 0, .int .i64 0, .str []] [], none⟩,
 ⟨none, [10], [.t 4, .t 10], [], [4], .store true 3, none⟩,
 ⟨(some 5), [], [.c (.bool false)], [], [], .cp, none⟩] [10] [])
 .ret)
 .skip))
 (.seq
 (.reg [⟨(some 11), [], [.t 0], [], [], .cp, none⟩,
 ⟨(some 12), [], [.t 11], [], [], .nilck, none⟩,
 ⟨(some 13), [], [.t 12], [], [], .faddr 0, none⟩,
 ⟨(some 14), [], [.t 13], [], [], .load false 1, none⟩,
 ⟨(some 15), [], [.t 1], [], [], .cp, none⟩,
 ⟨(some 16), [], [.t 14, .t 15], [], [], .iaddr none 3, none⟩,
 ⟨(some 17), [], [.t 16], [], [], .load true 3, none⟩,
 ⟨none, [17], [.t 4, .t 17], [], [4], .store true 3, none⟩,
 ⟨(some 5), [], [.c (.bool true)], [], [], .cp, none⟩] [11, 12, 13, 14, 15, 16, 17] [])
 .ret))) }

def H_net_Net_Twice : Hints := [(1, { ops := [(2, { mw := [0], nref := 1 }), (7, { mw := [5] })], kt := [7, 8, 9, 10, 11, 12], kb := [] }),
 (2, { ops := [], kt := [14, 15], kb := [] }),
 (4, { ops := [], kt := [17, 18], kb := [] }),
 (6, { ops := [(1, { mr := [5] }), (2, { mw := [0], nref := 1 })], kt := [19, 20, 21], kb := [] })]
def c_net_Net_Twice (F : Nat → FuncId) : AFun := { nparams := 2, ntmps := 22, results := [.tmp 4], body :=
 (.seq
 (.reg [⟨(some 4), [], [.c (.int .i64 0)], [], [], .cp, none⟩] [] [])
 (.seq
 (.reg [⟨(some 8), [], [.t 0], [], [], .cp, none⟩,
 ⟨(some 9), [], [.t 1], [], [], .cp, none⟩,
 ⟨(some 10), [], [.c (.fn (F n_net_Net_Look)), .t 8, .t 9], [], [0], .call 1 false, none⟩,
 ⟨(some 7), [], [.t 10], [], [], .cp, none⟩,
 ⟨(some 11), [], [.t 7], [], [], .extract 0, none⟩,
 ⟨(some 12), [], [.t 7], [], [], .extract 1, none⟩,
 ⟨(some 5), [], [], [], [5], .alloc [.val (.int .i64 0), .val (.int .i64 0), .val (.str [])], none⟩,
 ⟨none, [11], [.t 5, .t 11], [], [5], .store true 3, none⟩,
 ⟨(some 6), [12], [.t 12], [], [], .mv, none⟩] [7, 8, 9, 10, 11, 12] [])
 (.seq
 (.block 0
 (.seq
 (.reg [⟨(some 14), [], [.t 0], [], [], .cp, none⟩,
 ⟨(some 15), [], [.t 14, .c (.nilp)], [], [], .eqn false, none⟩,
 ⟨(some 13), [15], [.t 15], [], [], .mv, none⟩] [14, 15] [])
 (.cond (.t 13)
 (.seq
 (.reg [⟨(some 4), [], [.c (.int .i64 1)], [], [], .cp, none⟩] [] [])
 .ret)
 (.seq
 (.reg [⟨(some 17), [], [.t 6], [], [], .cp, none⟩,
 ⟨(some 18), [], [.t 17], [], [], .not, none⟩,
 ⟨(some 16), [18], [.t 18], [], [], .mv, none⟩] [17, 18] [])
 (.cond (.t 16)
 (.seq
 (.reg [⟨(some 4), [], [.c (.int .i64 12)], [], [], .cp, none⟩] [] [])
 .ret)
 .skip)))))
 (.seq
 (.reg [⟨(some 19), [], [.t 0], [], [], .cp, none⟩,
 ⟨(some 20), [], [.t 5], [5], [], .load true 3, none⟩,
 ⟨(some 21), [], [.c (.fn (F n_net_Net_Send)), .t 19, .t 20], [], [0], .call 1 false, none⟩,
 ⟨(some 4), [21], [.t 21], [], [], .mv, none⟩] [19, 20, 21] [])
 .ret)))) }

def H_net_Net_Twice__nil : Hints := [(1, { ops := [(7, { mw := [5] })], kt := [7, 8, 9, 10, 11, 12], kb := [] }),
 (2, { ops := [], kt := [14, 15], kb := [] }),
 (4, { ops := [], kt := [17, 18], kb := [] }),
 (6, { ops := [(1, { mr := [5] })], kt := [19, 20, 21], kb := [] })]
def c_net_Net_Twice__nil (F : Nat → FuncId) : AFun := { nparams := 2, ntmps := 22, results := [.tmp 4], body :=
 (.seq
 (.reg [⟨(some 4), [], [.c (.int .i64 0)], [], [], .cp, none⟩] [] [])
 (.seq
 (.reg [⟨(some 8), [], [.t 0], [], [], .cp, none⟩,
 ⟨(some 9), [], [.t 1], [], [], .cp, none⟩,
 ⟨(some 10), [], [.c (.fn (F n_net_Net_Look)), .t 8, .t 9], [], [], .call 0 false, none⟩,
 ⟨(some 7), [], [.t 10], [], [], .cp, none⟩,
 ⟨(some 11), [], [.t 7], [], [], .extract 0, none⟩,
 ⟨(some 12), [], [.t 7], [], [], .extract 1, none⟩,
 ⟨(some 5), [], [], [], [5], .alloc [.val (.int .i64 0), .val (.int .i64 0), .val (.str [])], none⟩,
 ⟨none, [11], [.t 5, .t 11], [], [5], .store true 3, none⟩,
 ⟨(some 6), [12], [.t 12], [], [], .mv, none⟩] [7, 8, 9, 10, 11, 12] [])
 (.seq
 (.block 0
 (.seq
 (.reg [⟨(some 14), [], [.t 0], [], [], .cp, none⟩,
 ⟨(some 15), [], [.t 14, .c (.nilp)], [], [], .eqn false, none⟩,
 ⟨(some 13), [15], [.t 15], [], [], .mv, none⟩] [14, 15] [])
 (.cond (.t 13)
 (.seq
 (.reg [⟨(some 4), [], [.c (.int .i64 1)], [], [], .cp, none⟩] [] [])
 .ret)
 (.seq
 (.reg [⟨(some 17), [], [.t 6], [], [], .cp, none⟩,
 ⟨(some 18), [], [.t 17], [], [], .not, none⟩,
 ⟨(some 16), [18], [.t 18], [], [], .mv, none⟩] [17, 18] [])
 (.cond (.t 16)
 (.seq
 (.reg [⟨(some 4), [], [.c (.int .i64 12)], [], [], .cp, none⟩] [] [])
 .ret)
 .skip)))))
 (.seq
 (.reg [⟨(some 19), [], [.t 0], [], [], .cp, none⟩,
 ⟨(some 20), [], [.t 5], [5], [], .load true 3, none⟩,
 ⟨(some 21), [], [.c (.fn (F n_net_Net_Send)), .t 19, .t 20], [], [], .call 0 false, none⟩,
 ⟨(some 4), [21], [.t 21], [], [], .mv, none⟩] [19, 20, 21] [])
 .ret)))) }

def H_net_Net_is : Hints := [(1, { ops := [(5, { mw := [0], nref := 1 })], kt := [5, 6, 7, 8, 9, 10, 11, 12], kb := [] })]
def c_net_Net_is (F : Nat → FuncId) : AFun := { nparams := 2, ntmps := 13, results := [.tmp 4], body :=
 (.seq
 (.reg [⟨(some 4), [], [.c (.bool false)], [], [], .cp, none⟩] [] [])
 (.seq
 (.reg [⟨(some 5), [], [.t 1], [], [], .cp, none⟩,
 ⟨(some 6), [], [.t 5, .c (.int .i64 0)], [], [], .bini .geq, none⟩,
 ⟨(some 7), [], [.t 6], [], [], .cp, none⟩,
 ⟨(some 8), [], [.t 1], [], [], .cp, some (7, true)⟩,
 ⟨(some 9), [], [.t 0], [], [], .cp, some (7, true)⟩,
 ⟨(some 10), [], [.c (.fn (F n_net_Net_Len)), .t 9], [], [0], .call 1 false, some (7, true)⟩,
 ⟨(some 11), [], [.t 8, .t 10], [], [], .bini .lss, some (7, true)⟩,
 ⟨(some 12), [], [.t 7, .t 11, .c (.bool false)], [], [], .pick, none⟩,
 ⟨(some 4), [12], [.t 12], [], [], .mv, none⟩] [5, 6, 7, 8, 9, 10, 11, 12] [])
 .ret)) }

def H_net_Net_is__nil : Hints := [(1, { ops := [], kt := [5, 6, 7, 8, 9, 10, 11, 12], kb := [] })]
def c_net_Net_is__nil (F : Nat → FuncId) : AFun := { nparams := 2, ntmps := 13, results := [.tmp 4], body :=
 (.seq
 (.reg [⟨(some 4), [], [.c (.bool false)], [], [], .cp, none⟩] [] [])
 (.seq
 (.reg [⟨(some 5), [], [.t 1], [], [], .cp, none⟩,
 ⟨(some 6), [], [.t 5, .c (.int .i64 0)], [], [], .bini .geq, none⟩,
 ⟨(some 7), [], [.t 6], [], [], .cp, none⟩,
 ⟨(some 8), [], [.t 1], [], [], .cp, some (7, true)⟩,
 ⟨(some 9), [], [.t 0], [], [], .cp, some (7, true)⟩,
 ⟨(some 10), [], [.c (.fn (F n_net_Net_Len)), .t 9], [], [], .call 0 false, some (7, true)⟩,
 ⟨(some 11), [], [.t 8, .t 10], [], [], .bini .lss, some (7, true)⟩,
 ⟨(some 12), [], [.t 7, .t 11, .c (.bool false)], [], [], .pick, none⟩,
 ⟨(some 4), [12], [.t 12], [], [], .mv, none⟩] [5, 6, 7, 8, 9, 10, 11, 12] [])
 .ret)) }

end Go.AR
