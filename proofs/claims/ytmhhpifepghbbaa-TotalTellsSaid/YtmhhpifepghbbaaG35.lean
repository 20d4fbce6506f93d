import Derived.Test.YtmhhpifepghbbaaG02
import Derived.Test.YtmhhpifepghbbaaG03
set_option linter.all false
/-! Codes, printed by program. -/
namespace Go.AR
def H_plaw16_TotalTells : Hints := [(1, { ops := [], kt := [14, 15, 16, 17, 18, 19, 20, 21], kb := [] }),
 (2, { ops := [], kt := [23], kb := [] }),
 (3, { ops := [], kt := [24, 25, 26, 27, 28, 29], kb := [] }),
 (4, { ops := [], kt := [30, 31, 32, 33, 34, 35, 36], kb := [] }),
 (5, { ops := [], kt := [37, 38, 39, 40, 41, 42], kb := [] }),
 (6, { ops := [], kt := [43, 44, 45, 46, 47, 48, 49, 50, 51, 52, 53, 54, 55, 56, 57, 58, 59, 60, 61, 62, 63, 64, 65, 66, 67, 68, 69], kb := [] })]
def c_plaw16_TotalTells (F : Nat → FuncId) : AFun := { nparams := 3, ntmps := 70, results := [.tmp 6], body :=
 (.seq
 (.reg [⟨(some 6), [], [.c (.bool false)], [], [], .cp, none⟩] [] [])
 (.seq
 (.seq
 (.reg [⟨(some 14), [], [.t 0], [], [], .cp, none⟩,
 ⟨(some 15), [], [.t 1], [], [], .cp, none⟩,
 ⟨(some 16), [], [.c (.fn (F n_plaw13_Good)), .t 14, .t 15], [], [], .call 0 false, none⟩,
 ⟨(some 17), [], [.t 16], [], [], .not, none⟩,
 ⟨(some 18), [], [.t 17], [], [], .cp, none⟩,
 ⟨(some 19), [], [.t 2], [], [], .cp, some (18, false)⟩,
 ⟨(some 20), [], [.c (.fn (F n_pref10_Short)), .t 19], [], [], .call 0 false, some (18, false)⟩,
 ⟨(some 21), [], [.t 20], [], [], .not, some (18, false)⟩,
 ⟨(some 22), [], [.t 18, .c (.bool true), .t 21], [], [], .pick, none⟩] [14, 15, 16, 17, 18, 19, 20, 21] [])
 (.cond (.t 22)
 (.seq
 (.reg [⟨(some 23), [], [.c (.fn (F n_plaw16_awake))], [], [], .call 0 false, none⟩,
 ⟨(some 6), [23], [.t 23], [], [], .mv, none⟩] [23] [])
 .ret)
 .skip))
 (.seq
 (.reg [⟨(some 24), [], [.t 0], [], [], .cp, none⟩,
 ⟨(some 25), [], [.t 1], [], [], .cp, none⟩,
 ⟨(some 26), [], [.c (.fn (F n_live_All)), .t 24, .t 25], [], [], .call 0 false, none⟩,
 ⟨(some 27), [], [.t 0], [], [], .cp, none⟩,
 ⟨(some 28), [], [.t 1], [], [], .cp, none⟩,
 ⟨(some 29), [], [.c (.fn (F n_pref13_All)), .t 27, .t 28], [], [], .call 0 false, none⟩,
 ⟨(some 7), [26], [.t 26], [], [], .mv, none⟩,
 ⟨(some 8), [29], [.t 29], [], [], .mv, none⟩] [24, 25, 26, 27, 28, 29] [])
 (.seq
 (.reg [⟨(some 31), [], [.t 8], [], [], .cp, none⟩,
 ⟨(some 32), [], [.t 2], [], [], .cp, none⟩,
 ⟨(some 33), [], [.c (.fn (F n_pref16_Parts)), .t 31, .t 32], [], [], .call 0 false, none⟩,
 ⟨(some 30), [], [.t 33], [], [], .cp, none⟩,
 ⟨(some 34), [], [.t 30], [], [], .extract 0, none⟩,
 ⟨(some 35), [], [.t 30], [], [], .extract 1, none⟩,
 ⟨(some 36), [], [.t 30], [], [], .extract 2, none⟩,
 ⟨(some 9), [34], [.t 34], [], [], .mv, none⟩,
 ⟨(some 10), [35], [.t 35], [], [], .mv, none⟩,
 ⟨(some 11), [36], [.t 36], [], [], .mv, none⟩] [30, 31, 32, 33, 34, 35, 36] [])
 (.seq
 (.reg [⟨(some 38), [], [.t 7], [], [], .cp, none⟩,
 ⟨(some 39), [], [.t 2], [], [], .cp, none⟩,
 ⟨(some 40), [], [.c (.fn (F n_total_Parts)), .t 38, .t 39], [], [], .call 0 false, none⟩,
 ⟨(some 37), [], [.t 40], [], [], .cp, none⟩,
 ⟨(some 41), [], [.t 37], [], [], .extract 0, none⟩,
 ⟨(some 42), [], [.t 37], [], [], .extract 1, none⟩,
 ⟨(some 12), [41], [.t 41], [], [], .mv, none⟩,
 ⟨(some 13), [42], [.t 42], [], [], .mv, none⟩] [37, 38, 39, 40, 41, 42] [])
 (.seq
 (.reg [⟨(some 43), [], [.t 12], [], [], .cp, none⟩,
 ⟨(some 44), [], [.t 9], [], [], .cp, none⟩,
 ⟨(some 45), [], [.t 43, .t 44], [], [], .bini .eql, none⟩,
 ⟨(some 46), [], [.t 45], [], [], .cp, none⟩,
 ⟨(some 47), [], [.t 13], [], [], .cp, some (46, true)⟩,
 ⟨(some 48), [], [.t 10], [], [], .cp, some (46, true)⟩,
 ⟨(some 49), [], [.t 47, .t 48], [], [], .bini .eql, some (46, true)⟩,
 ⟨(some 50), [], [.t 46, .t 49, .c (.bool false)], [], [], .pick, none⟩,
 ⟨(some 51), [], [.t 50], [], [], .cp, none⟩,
 ⟨(some 52), [], [.t 7], [], [], .cp, some (51, true)⟩,
 ⟨(some 53), [], [.t 2], [], [], .cp, some (51, true)⟩,
 ⟨(some 54), [], [.c (.fn (F n_total_Sum)), .t 52, .t 53], [], [], .call 0 false, some (51, true)⟩,
 ⟨(some 55), [], [.t 9], [], [], .cp, some (51, true)⟩,
 ⟨(some 56), [], [.t 10], [], [], .cp, some (51, true)⟩,
 ⟨(some 57), [], [.t 55, .t 56], [], [], .bini .sub, some (51, true)⟩,
 ⟨(some 58), [], [.t 54, .t 57], [], [], .bini .eql, some (51, true)⟩,
 ⟨(some 59), [], [.t 51, .t 58, .c (.bool false)], [], [], .pick, none⟩,
 ⟨(some 60), [], [.t 59], [], [], .cp, none⟩,
 ⟨(some 61), [], [.t 7], [], [], .cp, some (60, true)⟩,
 ⟨(some 62), [], [.t 2], [], [], .cp, some (60, true)⟩,
 ⟨(some 63), [], [.c (.fn (F n_total_Count)), .t 61, .t 62], [], [], .call 0 false, some (60, true)⟩,
 ⟨(some 64), [], [.t 11], [], [], .cp, some (60, true)⟩,
 ⟨(some 65), [], [.t 63, .t 64], [], [], .bini .eql, some (60, true)⟩,
 ⟨(some 66), [], [.t 60, .t 65, .c (.bool false)], [], [], .pick, none⟩,
 ⟨(some 67), [], [.t 66], [], [], .cp, none⟩,
 ⟨(some 68), [], [.c (.fn (F n_plaw16_awake))], [], [], .call 0 false, some (67, true)⟩,
 ⟨(some 69), [], [.t 67, .t 68, .c (.bool false)], [], [], .pick, none⟩,
 ⟨(some 6), [69], [.t 69], [], [], .mv, none⟩] [43, 44, 45, 46, 47, 48, 49, 50, 51, 52, 53, 54, 55, 56, 57, 58, 59, 60, 61, 62, 63, 64, 65, 66, 67, 68, 69] [])
 .ret)))))) }

def H_plaw16_awake : Hints := [(1, { ops := [], kt := [3], kb := [] }),
 (2, { ops := [], kt := [4, 5, 6, 7, 8, 9, 10, 11], kb := [] }),
 (3, { ops := [], kt := [12, 13, 14, 15, 16, 17, 18, 19, 20, 21], kb := [] })]
def c_plaw16_awake (F : Nat → FuncId) : AFun := { nparams := 0, ntmps := 22, results := [.tmp 0], body :=
 (.seq
 (.reg [⟨(some 0), [], [.c (.bool false)], [], [], .cp, none⟩] [] [])
 (.seq
 (.reg [⟨(some 3), [], [.c (.str [97])], [], [], .bslice 1 [.str []] [(0, 1)], none⟩,
 ⟨(some 1), [3], [.t 3], [], [], .mv, none⟩] [3] [])
 (.seq
 (.reg [⟨(some 4), [], [.c (.int .i64 1)], [], [], .build [.int .i64 0, .int .i64 0] [(1, 1)], none⟩,
 ⟨(some 5), [], [.t 1], [], [], .cp, none⟩,
 ⟨(some 6), [], [.c (.fn (F n_plaw16_inc)), .t 4, .t 5, .c (.int .i64 5)], [], [], .call 0 false, none⟩,
 ⟨(some 7), [], [.c (.int .i64 1), .c (.int .i64 1)], [], [], .build [.int .i64 0, .int .i64 0] [(0, 1), (1, 1)], none⟩,
 ⟨(some 8), [], [.t 1], [], [], .cp, none⟩,
 ⟨(some 9), [], [.c (.fn (F n_plaw16_inc)), .t 7, .t 8, .c (.int .i64 (-2))], [], [], .call 0 false, none⟩,
 ⟨(some 10), [], [.t 6, .t 9], [], [], .bslice 6 [.int .i64 0, .int .i64 0, .int .i64 0, .int .i64 0, .bool false, .sl 7 [], .int .i64 0, .int .i64 0, .int .i64 0, .int .i64 0, .bool false, .sl 7 []] [(0, 6), (6, 6)], none⟩,
 ⟨(some 11), [], [.c (.fn (F n_live_All)), .t 10, .c (.sl 3 [])], [], [], .call 0 false, none⟩,
 ⟨(some 2), [11], [.t 11], [], [], .mv, none⟩] [4, 5, 6, 7, 8, 9, 10, 11] [])
 (.seq
 (.reg [⟨(some 12), [], [.t 2], [], [], .cp, none⟩,
 ⟨(some 13), [], [.t 1], [], [], .cp, none⟩,
 ⟨(some 14), [], [.c (.fn (F n_total_Sum)), .t 12, .t 13], [], [], .call 0 false, none⟩,
 ⟨(some 15), [], [.t 14, .c (.int .i64 3)], [], [], .bini .eql, none⟩,
 ⟨(some 16), [], [.t 15], [], [], .cp, none⟩,
 ⟨(some 17), [], [.t 2], [], [], .cp, some (16, true)⟩,
 ⟨(some 18), [], [.t 1], [], [], .cp, some (16, true)⟩,
 ⟨(some 19), [], [.c (.fn (F n_total_Count)), .t 17, .t 18], [], [], .call 0 false, some (16, true)⟩,
 ⟨(some 20), [], [.t 19, .c (.int .i64 2)], [], [], .bini .eql, some (16, true)⟩,
 ⟨(some 21), [], [.t 16, .t 20, .c (.bool false)], [], [], .pick, none⟩,
 ⟨(some 0), [21], [.t 21], [], [], .mv, none⟩] [12, 13, 14, 15, 16, 17, 18, 19, 20, 21] [])
 .ret)))) }

def H_pref16_Parts : Hints := [(2, { ops := [], kt := [12, 13, 14], kb := [] }),
 (4, { ops := [], kt := [15, 16, 17], kb := [] }),
 (5, { ops := [], kt := [11, 15, 16, 17, 18, 19, 20, 21, 22, 23, 24, 25, 26, 27, 28, 29, 30, 31, 32, 33, 34, 35, 36], kb := [] }),
 (6, { ops := [], kt := [21, 22, 23, 24, 25, 26], kb := [] }),
 (7, { ops := [], kt := [27], kb := [] }),
 (8, { ops := [], kt := [29, 30, 31], kb := [] }),
 (9, { ops := [], kt := [32], kb := [] }),
 (10, { ops := [], kt := [34, 35, 36], kb := [] }),
 (11, { ops := [], kt := [37, 38, 39, 40], kb := [] })]
def c_pref16_Parts (F : Nat → FuncId) : AFun := { nparams := 2, ntmps := 41, results := [.tmp 4, .tmp 5, .tmp 6], body :=
 (.seq
 (.reg [⟨(some 4), [], [.c (.int .i64 0)], [], [], .cp, none⟩,
 ⟨(some 5), [], [.c (.int .i64 0)], [], [], .cp, none⟩,
 ⟨(some 6), [], [.c (.int .i64 0)], [], [], .cp, none⟩] [] [])
 (.seq
 (.reg [⟨(some 7), [], [.c (.int .i64 0)], [], [], .cp, none⟩,
 ⟨(some 8), [], [.c (.int .i64 0)], [], [], .cp, none⟩] [] [])
 (.seq
 (.reg [⟨(some 12), [], [.t 0], [], [], .cp, none⟩,
 ⟨(some 13), [], [.t 1], [], [], .cp, none⟩,
 ⟨(some 14), [], [.c (.fn (F n_pref13_At)), .t 12, .t 13, .c (.int .i64 3)], [], [], .call 0 false, none⟩,
 ⟨(some 9), [14], [.t 14], [], [], .mv, none⟩] [12, 13, 14] [])
 (.seq
 (.seq
 (.reg [⟨(some 10), [], [.c (.int .i64 0)], [], [], .cp, none⟩] [] [])
 (.block 0
 (.loop
 (.seq
 (.seq
 (.reg [⟨(some 15), [], [.t 10], [], [], .cp, none⟩,
 ⟨(some 16), [], [.t 9], [], [], .cp, none⟩,
 ⟨(some 17), [], [.t 16], [], [], .len false, none⟩,
 ⟨(some 18), [], [.t 15, .t 17], [], [], .bini .lss, none⟩] [15, 16, 17] [])
 (.cond (.t 18)
 .skip
 (.exit 0)))
 (.seq
 (.block 1
 (.seq
 (.reg [⟨(some 21), [], [.t 9], [], [], .cp, none⟩,
 ⟨(some 22), [], [.t 10], [], [], .cp, none⟩,
 ⟨(some 23), [], [.t 21, .t 22], [], [], .iaddr none 11, none⟩,
 ⟨(some 24), [], [.t 23], [], [], .faddr 3, none⟩,
 ⟨(some 25), [], [.t 24], [], [], .faddr 5, none⟩,
 ⟨(some 26), [], [.t 25], [], [], .load false 1, none⟩,
 ⟨(some 11), [26], [.t 26], [], [], .mv, none⟩] [21, 22, 23, 24, 25, 26] [])
 (.seq
 (.seq
 (.reg [⟨(some 27), [], [.t 11], [], [], .cp, none⟩,
 ⟨(some 28), [], [.t 27, .c (.int .i64 0)], [], [], .bini .gtr, none⟩] [27] [])
 (.cond (.t 28)
 (.reg [⟨(some 29), [], [.t 7], [], [], .cp, none⟩,
 ⟨(some 30), [], [.t 11], [], [], .cp, none⟩,
 ⟨(some 31), [], [.t 29, .t 30], [], [], .bini .add, none⟩,
 ⟨(some 7), [31], [.t 31], [], [], .mv, none⟩] [29, 30, 31] [])
 .skip))
 (.seq
 (.reg [⟨(some 32), [], [.t 11], [], [], .cp, none⟩,
 ⟨(some 33), [], [.t 32, .c (.int .i64 0)], [], [], .bini .lss, none⟩] [32] [])
 (.cond (.t 33)
 (.reg [⟨(some 34), [], [.t 8], [], [], .cp, none⟩,
 ⟨(some 35), [], [.t 11], [], [], .cp, none⟩,
 ⟨(some 36), [], [.t 34, .t 35], [], [], .bini .sub, none⟩,
 ⟨(some 8), [36], [.t 36], [], [], .mv, none⟩] [34, 35, 36] [])
 .skip)))))
 (.reg [⟨(some 19), [], [.t 10], [], [], .cp, none⟩,
 ⟨(some 20), [], [.t 19, .c (.int .i64 1)], [], [], .bini .add, none⟩,
 ⟨(some 10), [20], [.t 20], [], [], .mv, none⟩] [11, 15, 16, 17, 18, 19, 20, 21, 22, 23, 24, 25, 26, 27, 28, 29, 30, 31, 32, 33, 34, 35, 36] []))))))
 (.seq
 (.reg [⟨(some 37), [], [.t 7], [], [], .cp, none⟩,
 ⟨(some 38), [], [.t 8], [], [], .cp, none⟩,
 ⟨(some 39), [], [.t 9], [], [], .cp, none⟩,
 ⟨(some 40), [], [.t 39], [], [], .len false, none⟩,
 ⟨(some 4), [37], [.t 37], [], [], .mv, none⟩,
 ⟨(some 5), [38], [.t 38], [], [], .mv, none⟩,
 ⟨(some 6), [40], [.t 40], [], [], .mv, none⟩] [37, 38, 39, 40] [])
 .ret))))) }

def H_total_Parts : Hints := [(2, { ops := [], kt := [10, 11], kb := [] }),
 (4, { ops := [(3, { mw := [9] })], kt := [16, 17], kb := [] }),
 (5, { ops := [(2, { mr := [9] })], kt := [18, 19, 20], kb := [] }),
 (6, { ops := [(3, { mr := [9] })], kt := [22, 23, 24, 25, 26], kb := [] }),
 (7, { ops := [(3, { mr := [9] })], kt := [27, 28, 29, 30, 31], kb := [] }),
 (8, { ops := [], kt := [9, 15, 16, 17, 18, 19, 20, 21, 22, 23, 24, 25, 26, 27, 28, 29, 30, 31, 32], kb := [9] }),
 (9, { ops := [], kt := [33, 34], kb := [] })]
def c_total_Parts (F : Nat → FuncId) : AFun := { nparams := 2, ntmps := 35, results := [.tmp 4, .tmp 5], body :=
 (.seq
 (.reg [⟨(some 4), [], [.c (.int .i64 0)], [], [], .cp, none⟩,
 ⟨(some 5), [], [.c (.int .i64 0)], [], [], .cp, none⟩] [] [])
 (.seq
 (.reg [⟨(some 6), [], [.c (.int .i64 0)], [], [], .cp, none⟩,
 ⟨(some 7), [], [.c (.int .i64 0)], [], [], .cp, none⟩] [] [])
 (.seq
 (.seq
 (.reg [⟨(some 10), [], [.t 0], [], [], .cp, none⟩,
 ⟨(some 11), [], [.t 1], [], [], .cp, none⟩,
 ⟨(some 12), [], [.c (.fn (F n_live_At)), .t 10, .t 11, .c (.int .i64 3)], [], [], .call 0 false, none⟩,
 ⟨(some 13), [], [.t 12], [], [], .len false, none⟩,
 ⟨(some 14), [], [.c (.int .i64 0)], [], [], .cp, none⟩] [10, 11] [])
 (.block 0
 (.loop
 (.seq
 (.reg [⟨(some 15), [], [.t 14, .t 13], [], [], .bini .lss, none⟩] [] [])
 (.seq
 (.cond (.t 15)
 .skip
 (.exit 0))
 (.seq
 (.block 1
 (.seq
 (.reg [⟨(some 16), [], [.t 12, .t 14], [], [], .iaddr none 11, none⟩,
 ⟨(some 17), [], [.t 16], [], [], .load true 11, none⟩,
 ⟨(some 9), [], [], [], [9], .alloc [.val (.int .i64 0), .val (.int .i64 0), .val (.int .i64 0), .val (.int .i64 0), .own 1 [], .val (.int .i64 0), .val (.int .i64 0), .val (.str []), .val (.int .i64 0), .own 3 [], .val (.int .i64 0)], none⟩,
 ⟨none, [17], [.t 9, .t 17], [], [9], .store true 11, none⟩] [16, 17] [])
 (.seq
 (.reg [⟨(some 18), [], [.t 9], [], [], .faddr 3, none⟩,
 ⟨(some 19), [], [.t 18], [], [], .faddr 5, none⟩,
 ⟨(some 20), [], [.t 19], [9], [], .load false 1, none⟩,
 ⟨(some 21), [], [.t 20, .c (.int .i64 0)], [], [], .bini .gtr, none⟩] [18, 19, 20] [])
 (.cond (.t 21)
 (.reg [⟨(some 22), [], [.t 6], [], [], .cp, none⟩,
 ⟨(some 23), [], [.t 9], [], [], .faddr 3, none⟩,
 ⟨(some 24), [], [.t 23], [], [], .faddr 5, none⟩,
 ⟨(some 25), [], [.t 24], [9], [], .load false 1, none⟩,
 ⟨(some 26), [], [.t 22, .t 25], [], [], .bini .add, none⟩,
 ⟨(some 6), [26], [.t 26], [], [], .mv, none⟩] [22, 23, 24, 25, 26] [])
 (.reg [⟨(some 27), [], [.t 7], [], [], .cp, none⟩,
 ⟨(some 28), [], [.t 9], [], [], .faddr 3, none⟩,
 ⟨(some 29), [], [.t 28], [], [], .faddr 5, none⟩,
 ⟨(some 30), [], [.t 29], [9], [], .load false 1, none⟩,
 ⟨(some 31), [], [.t 27, .t 30], [], [], .bini .sub, none⟩,
 ⟨(some 7), [31], [.t 31], [], [], .mv, none⟩] [27, 28, 29, 30, 31] [])))))
 (.reg [⟨(some 32), [], [.t 14, .c (.int .i64 1)], [], [], .bini .add, none⟩,
 ⟨(some 14), [], [.t 32], [], [], .cp, none⟩] [9, 15, 16, 17, 18, 19, 20, 21, 22, 23, 24, 25, 26, 27, 28, 29, 30, 31, 32] [9])))))))
 (.seq
 (.reg [⟨(some 33), [], [.t 6], [], [], .cp, none⟩,
 ⟨(some 34), [], [.t 7], [], [], .cp, none⟩,
 ⟨(some 4), [33], [.t 33], [], [], .mv, none⟩,
 ⟨(some 5), [34], [.t 34], [], [], .mv, none⟩] [33, 34] [])
 .ret)))) }

def H_total_Sum : Hints := [(2, { ops := [], kt := [8, 9], kb := [] }),
 (4, { ops := [(3, { mw := [7] })], kt := [14, 15], kb := [] }),
 (5, { ops := [(3, { mr := [7] })], kt := [16, 17, 18, 19, 20], kb := [] }),
 (6, { ops := [], kt := [7, 13, 14, 15, 16, 17, 18, 19, 20, 21], kb := [7] }),
 (7, { ops := [], kt := [22], kb := [] })]
def c_total_Sum (F : Nat → FuncId) : AFun := { nparams := 2, ntmps := 23, results := [.tmp 4], body :=
 (.seq
 (.reg [⟨(some 4), [], [.c (.int .i64 0)], [], [], .cp, none⟩] [] [])
 (.seq
 (.reg [⟨(some 5), [], [.c (.int .i64 0)], [], [], .cp, none⟩] [] [])
 (.seq
 (.seq
 (.reg [⟨(some 8), [], [.t 0], [], [], .cp, none⟩,
 ⟨(some 9), [], [.t 1], [], [], .cp, none⟩,
 ⟨(some 10), [], [.c (.fn (F n_live_At)), .t 8, .t 9, .c (.int .i64 3)], [], [], .call 0 false, none⟩,
 ⟨(some 11), [], [.t 10], [], [], .len false, none⟩,
 ⟨(some 12), [], [.c (.int .i64 0)], [], [], .cp, none⟩] [8, 9] [])
 (.block 0
 (.loop
 (.seq
 (.reg [⟨(some 13), [], [.t 12, .t 11], [], [], .bini .lss, none⟩] [] [])
 (.seq
 (.cond (.t 13)
 .skip
 (.exit 0))
 (.seq
 (.block 1
 (.seq
 (.reg [⟨(some 14), [], [.t 10, .t 12], [], [], .iaddr none 11, none⟩,
 ⟨(some 15), [], [.t 14], [], [], .load true 11, none⟩,
 ⟨(some 7), [], [], [], [7], .alloc [.val (.int .i64 0), .val (.int .i64 0), .val (.int .i64 0), .val (.int .i64 0), .own 1 [], .val (.int .i64 0), .val (.int .i64 0), .val (.str []), .val (.int .i64 0), .own 3 [], .val (.int .i64 0)], none⟩,
 ⟨none, [15], [.t 7, .t 15], [], [7], .store true 11, none⟩] [14, 15] [])
 (.reg [⟨(some 16), [], [.t 5], [], [], .cp, none⟩,
 ⟨(some 17), [], [.t 7], [], [], .faddr 3, none⟩,
 ⟨(some 18), [], [.t 17], [], [], .faddr 5, none⟩,
 ⟨(some 19), [], [.t 18], [7], [], .load false 1, none⟩,
 ⟨(some 20), [], [.t 16, .t 19], [], [], .bini .add, none⟩,
 ⟨(some 5), [20], [.t 20], [], [], .mv, none⟩] [16, 17, 18, 19, 20] [])))
 (.reg [⟨(some 21), [], [.t 12, .c (.int .i64 1)], [], [], .bini .add, none⟩,
 ⟨(some 12), [], [.t 21], [], [], .cp, none⟩] [7, 13, 14, 15, 16, 17, 18, 19, 20, 21] [7])))))))
 (.seq
 (.reg [⟨(some 22), [], [.t 5], [], [], .cp, none⟩,
 ⟨(some 4), [22], [.t 22], [], [], .mv, none⟩] [22] [])
 .ret)))) }

def H_total_Count : Hints := [(1, { ops := [], kt := [5, 6, 7, 8], kb := [] })]
def c_total_Count (F : Nat → FuncId) : AFun := { nparams := 2, ntmps := 9, results := [.tmp 4], body :=
 (.seq
 (.reg [⟨(some 4), [], [.c (.int .i64 0)], [], [], .cp, none⟩] [] [])
 (.seq
 (.reg [⟨(some 5), [], [.t 0], [], [], .cp, none⟩,
 ⟨(some 6), [], [.t 1], [], [], .cp, none⟩,
 ⟨(some 7), [], [.c (.fn (F n_live_At)), .t 5, .t 6, .c (.int .i64 3)], [], [], .call 0 false, none⟩,
 ⟨(some 8), [], [.t 7], [], [], .len false, none⟩,
 ⟨(some 4), [8], [.t 8], [], [], .mv, none⟩] [5, 6, 7, 8] [])
 .ret)) }

def H_plaw16_inc : Hints := [(1, { ops := [(0, { mr := [3] }), (6, { mw := [6] })], kt := [7, 8, 9, 10, 11, 12], kb := [] })]
def c_plaw16_inc (F : Nat → FuncId) : AFun := { nparams := 3, ntmps := 13, results := [.cell 6 true 6], body :=
 (.seq
 (.reg [⟨(some 3), [], [.t 0], [], [3], .box, none⟩,
 ⟨(some 6), [], [], [], [6], .alloc [.val (.int .i64 0), .val (.int .i64 0), .val (.int .i64 0), .val (.int .i64 0), .val (.bool false), .own 7 []], none⟩] [] [])
 (.seq
 (.reg [⟨(some 7), [], [.t 3], [3], [], .load true 2, none⟩,
 ⟨(some 8), [], [.t 1], [], [], .cp, none⟩,
 ⟨(some 9), [], [.t 2], [], [], .cp, none⟩,
 ⟨(some 10), [], [.c (.int .i64 3), .t 8, .t 9], [], [], .build [.int .i64 0, .sl 1 [], .int .i64 0, .int .i64 0, .str [], .int .i64 0, .sl 3 []] [(0, 1), (1, 1), (5, 1)], none⟩,
 ⟨(some 11), [], [.t 10], [], [], .bslice 7 [.int .i64 0, .sl 1 [], .int .i64 0, .int .i64 0, .str [], .int .i64 0, .sl 3 []] [(0, 7)], none⟩,
 ⟨(some 12), [], [.t 7, .c (.int .i64 1), .t 11], [], [], .build [.int .i64 0, .int .i64 0, .int .i64 0, .int .i64 0, .bool false, .sl 7 []] [(0, 2), (3, 1), (5, 1)], none⟩,
 ⟨none, [12], [.t 6, .t 12], [], [6], .store true 6, none⟩] [7, 8, 9, 10, 11, 12] [])
 .ret)) }

end Go.AR
