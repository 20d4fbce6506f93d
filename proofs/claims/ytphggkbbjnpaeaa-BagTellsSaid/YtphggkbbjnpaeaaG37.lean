import Derived.Test.YtphggkbbjnpaeaaG02
import Derived.Test.YtphggkbbjnpaeaaG03
set_option linter.all false
/-! Codes, printed by program. -/
namespace Go.AR
def H_plaw15_BagTells : Hints := [(1, { ops := [], kt := [12, 13, 14, 15, 16, 17, 18, 19], kb := [] }),
 (2, { ops := [], kt := [21], kb := [] }),
 (3, { ops := [], kt := [22, 23, 24, 25, 26, 27], kb := [] }),
 (4, { ops := [(2, { mr := [7] })], kt := [28, 29, 30, 31], kb := [] }),
 (5, { ops := [(10, { mr := [7] }), (18, { mr := [7] })], kt := [32, 33, 34, 35, 36, 37, 38, 39, 40, 41, 42, 43, 44, 45, 46, 47, 48, 49, 50, 51, 52, 53, 54, 55, 56, 57, 58, 59], kb := [] })]
def c_plaw15_BagTells (F : Nat → FuncId) : AFun := { nparams := 4, ntmps := 60, results := [.tmp 8], body :=
 (.seq
 (.reg [⟨(some 7), [], [.t 3], [], [7], .box, none⟩,
 ⟨(some 8), [], [.c (.bool false)], [], [], .cp, none⟩] [] [])
 (.seq
 (.seq
 (.reg [⟨(some 12), [], [.t 0], [], [], .cp, none⟩,
 ⟨(some 13), [], [.t 1], [], [], .cp, none⟩,
 ⟨(some 14), [], [.c (.fn (F n_plaw13_Good)), .t 12, .t 13], [], [], .call 0 false, none⟩,
 ⟨(some 15), [], [.t 14], [], [], .not, none⟩,
 ⟨(some 16), [], [.t 15], [], [], .cp, none⟩,
 ⟨(some 17), [], [.t 2], [], [], .cp, some (16, false)⟩,
 ⟨(some 18), [], [.c (.fn (F n_pref10_Short)), .t 17], [], [], .call 0 false, some (16, false)⟩,
 ⟨(some 19), [], [.t 18], [], [], .not, some (16, false)⟩,
 ⟨(some 20), [], [.t 16, .c (.bool true), .t 19], [], [], .pick, none⟩] [12, 13, 14, 15, 16, 17, 18, 19] [])
 (.cond (.t 20)
 (.seq
 (.reg [⟨(some 21), [], [.c (.fn (F n_plaw15_awake))], [], [], .call 0 false, none⟩,
 ⟨(some 8), [21], [.t 21], [], [], .mv, none⟩] [21] [])
 .ret)
 .skip))
 (.seq
 (.reg [⟨(some 22), [], [.t 0], [], [], .cp, none⟩,
 ⟨(some 23), [], [.t 1], [], [], .cp, none⟩,
 ⟨(some 24), [], [.c (.fn (F n_live_All)), .t 22, .t 23], [], [], .call 0 false, none⟩,
 ⟨(some 25), [], [.t 0], [], [], .cp, none⟩,
 ⟨(some 26), [], [.t 1], [], [], .cp, none⟩,
 ⟨(some 27), [], [.c (.fn (F n_pref13_All)), .t 25, .t 26], [], [], .call 0 false, none⟩,
 ⟨(some 9), [24], [.t 24], [], [], .mv, none⟩,
 ⟨(some 10), [27], [.t 27], [], [], .mv, none⟩] [22, 23, 24, 25, 26, 27] [])
 (.seq
 (.reg [⟨(some 28), [], [.t 10], [], [], .cp, none⟩,
 ⟨(some 29), [], [.t 2], [], [], .cp, none⟩,
 ⟨(some 30), [], [.t 7], [7], [], .load true 3, none⟩,
 ⟨(some 31), [], [.c (.fn (F n_pref15_Adds)), .t 28, .t 29, .t 30], [], [], .call 0 false, none⟩,
 ⟨(some 11), [31], [.t 31], [], [], .mv, none⟩] [28, 29, 30, 31] [])
 (.seq
 (.reg [⟨(some 32), [], [.t 9], [], [], .cp, none⟩,
 ⟨(some 33), [], [.t 2], [], [], .cp, none⟩,
 ⟨(some 34), [], [.c (.fn (F n_bag_Values)), .t 32, .t 33], [], [], .call 0 false, none⟩,
 ⟨(some 35), [], [.t 10], [], [], .cp, none⟩,
 ⟨(some 36), [], [.t 2], [], [], .cp, none⟩,
 ⟨(some 37), [], [.c (.fn (F n_pref15_Values)), .t 35, .t 36], [], [], .call 0 false, none⟩,
 ⟨(some 38), [], [.c (.fn (F n_pref09_Same)), .t 34, .t 37], [], [], .call 0 false, none⟩,
 ⟨(some 39), [], [.t 38], [], [], .cp, none⟩,
 ⟨(some 40), [], [.t 9], [], [], .cp, some (39, true)⟩,
 ⟨(some 41), [], [.t 2], [], [], .cp, some (39, true)⟩,
 ⟨(some 42), [], [.t 7], [7], [], .load true 3, some (39, true)⟩,
 ⟨(some 43), [], [.c (.fn (F n_bag_Adds)), .t 40, .t 41, .t 42], [], [], .call 0 false, some (39, true)⟩,
 ⟨(some 44), [], [.t 11], [], [], .cp, some (39, true)⟩,
 ⟨(some 45), [], [.c (.fn (F n_pref13_SameRefs)), .t 43, .t 44], [], [], .call 0 false, some (39, true)⟩,
 ⟨(some 46), [], [.t 39, .t 45, .c (.bool false)], [], [], .pick, none⟩,
 ⟨(some 47), [], [.t 46], [], [], .cp, none⟩,
 ⟨(some 48), [], [.t 9], [], [], .cp, some (47, true)⟩,
 ⟨(some 49), [], [.t 2], [], [], .cp, some (47, true)⟩,
 ⟨(some 50), [], [.t 7], [7], [], .load true 3, some (47, true)⟩,
 ⟨(some 51), [], [.c (.fn (F n_bag_Has)), .t 48, .t 49, .t 50], [], [], .call 0 false, some (47, true)⟩,
 ⟨(some 52), [], [.t 11], [], [], .cp, some (47, true)⟩,
 ⟨(some 53), [], [.t 52], [], [], .len false, some (47, true)⟩,
 ⟨(some 54), [], [.t 53, .c (.int .i64 0)], [], [], .bini .gtr, some (47, true)⟩,
 ⟨(some 55), [], [.t 51, .t 54], [], [], .binb false, some (47, true)⟩,
 ⟨(some 56), [], [.t 47, .t 55, .c (.bool false)], [], [], .pick, none⟩,
 ⟨(some 57), [], [.t 56], [], [], .cp, none⟩,
 ⟨(some 58), [], [.c (.fn (F n_plaw15_awake))], [], [], .call 0 false, some (57, true)⟩,
 ⟨(some 59), [], [.t 57, .t 58, .c (.bool false)], [], [], .pick, none⟩,
 ⟨(some 8), [59], [.t 59], [], [], .mv, none⟩] [32, 33, 34, 35, 36, 37, 38, 39, 40, 41, 42, 43, 44, 45, 46, 47, 48, 49, 50, 51, 52, 53, 54, 55, 56, 57, 58, 59] [])
 .ret))))) }

def H_plaw15_awake : Hints := [(1, { ops := [], kt := [6], kb := [] }),
 (2, { ops := [(2, { mw := [2] })], kt := [7], kb := [] }),
 (3, { ops := [(1, { mr := [2] }), (4, { mw := [3] })], kt := [8, 9, 10], kb := [] }),
 (4, { ops := [(3, { mw := [4] })], kt := [11, 12], kb := [] }),
 (5, { ops := [(1, { mr := [4] }), (2, { mr := [3] }), (6, { mr := [2] }), (7, { mr := [4] })], kt := [13, 14, 15, 16, 17, 18, 19, 20, 21, 22, 23, 24], kb := [] }),
 (6, { ops := [(3, { mr := [2] }), (7, { take := true }), (9, { mr := [3] }), (15, { mr := [2] })], kt := [25, 26, 27, 28, 29, 30, 31, 32, 33, 34, 35, 36, 37, 38, 39, 40, 41, 42], kb := [] })]
def c_plaw15_awake (F : Nat → FuncId) : AFun := { nparams := 0, ntmps := 43, results := [.tmp 0], body :=
 (.seq
 (.reg [⟨(some 0), [], [.c (.bool false)], [], [], .cp, none⟩] [] [])
 (.seq
 (.reg [⟨(some 6), [], [.c (.str [97])], [], [], .bslice 1 [.str []] [(0, 1)], none⟩,
 ⟨(some 1), [6], [.t 6], [], [], .mv, none⟩] [6] [])
 (.seq
 (.reg [⟨(some 7), [], [.c (.int .i64 1), .c (.int .i64 5)], [], [], .build [.int .i64 0, .int .i64 0, .str []] [(0, 1), (1, 1)], none⟩,
 ⟨(some 2), [], [], [], [2], .alloc [.val (.int .i64 0), .val (.int .i64 0), .val (.str [])], none⟩,
 ⟨none, [7], [.t 2, .t 7], [], [2], .store true 3, none⟩] [7] [])
 (.seq
 (.reg [⟨(some 8), [], [.t 1], [], [], .cp, none⟩,
 ⟨(some 9), [], [.t 2], [2], [], .load true 3, none⟩,
 ⟨(some 10), [], [.c (.int .i64 2), .t 8, .t 9], [], [], .build [.int .i64 0, .sl 1 [], .int .i64 0, .int .i64 0, .str [], .int .i64 0, .sl 3 []] [(0, 1), (1, 1), (2, 3)], none⟩,
 ⟨(some 3), [], [], [], [3], .alloc [.val (.int .i64 0), .own 1 [], .val (.int .i64 0), .val (.int .i64 0), .val (.str []), .val (.int .i64 0), .own 3 []], none⟩,
 ⟨none, [10], [.t 3, .t 10], [], [3], .store true 7, none⟩] [8, 9, 10] [])
 (.seq
 (.reg [⟨(some 11), [], [.c (.int .i64 1)], [], [], .build [.int .i64 0, .int .i64 0] [(1, 1)], none⟩,
 ⟨(some 12), [], [.t 11], [], [], .build [.int .i64 0, .int .i64 0, .int .i64 0] [(0, 2)], none⟩,
 ⟨(some 4), [], [], [], [4], .alloc [.val (.int .i64 0), .val (.int .i64 0), .val (.int .i64 0)], none⟩,
 ⟨none, [12], [.t 4, .t 12], [], [4], .store true 3, none⟩] [11, 12] [])
 (.seq
 (.reg [⟨(some 13), [], [.t 4], [], [], .faddr 0, none⟩,
 ⟨(some 14), [], [.t 13], [4], [], .load true 2, none⟩,
 ⟨(some 15), [], [.t 3], [3], [], .load true 7, none⟩,
 ⟨(some 16), [], [.c (.fn (F n_plaw15_act)), .t 14, .t 15], [], [], .call 0 false, none⟩,
 ⟨(some 17), [], [.c (.int .i64 2)], [], [], .build [.int .i64 0, .int .i64 0] [(1, 1)], none⟩,
 ⟨(some 18), [], [.t 1], [], [], .cp, none⟩,
 ⟨(some 19), [], [.t 2], [2], [], .load true 3, none⟩,
 ⟨(some 20), [], [.t 4], [4], [], .load true 3, none⟩,
 ⟨(some 21), [], [.t 20], [], [], .bslice 3 [.int .i64 0, .int .i64 0, .int .i64 0] [(0, 3)], none⟩,
 ⟨(some 22), [], [.c (.int .i64 4), .t 18, .t 19, .t 21], [], [], .build [.int .i64 0, .sl 1 [], .int .i64 0, .int .i64 0, .str [], .int .i64 0, .sl 3 []] [(0, 1), (1, 1), (2, 3), (6, 1)], none⟩,
 ⟨(some 23), [], [.c (.fn (F n_plaw15_act)), .t 17, .t 22], [], [], .call 0 false, none⟩,
 ⟨(some 24), [], [.t 16, .t 23], [], [], .bslice 6 [.int .i64 0, .int .i64 0, .int .i64 0, .int .i64 0, .bool false, .sl 7 [], .int .i64 0, .int .i64 0, .int .i64 0, .int .i64 0, .bool false, .sl 7 []] [(0, 6), (6, 6)], none⟩,
 ⟨(some 5), [24], [.t 24], [], [], .mv, none⟩] [13, 14, 15, 16, 17, 18, 19, 20, 21, 22, 23, 24] [])
 (.seq
 (.reg [⟨(some 25), [], [.t 5], [], [], .cp, none⟩,
 ⟨(some 26), [], [.c (.fn (F n_live_All)), .t 25, .c (.sl 3 [])], [], [], .call 0 false, none⟩,
 ⟨(some 27), [], [.t 1], [], [], .cp, none⟩,
 ⟨(some 28), [], [.t 2], [2], [], .load true 3, none⟩,
 ⟨(some 29), [], [.c (.fn (F n_bag_Has)), .t 26, .t 27, .t 28], [], [], .call 0 false, none⟩,
 ⟨(some 30), [], [.t 29], [], [], .not, none⟩,
 ⟨(some 31), [], [.t 30], [], [], .cp, none⟩,
 ⟨(some 32), [5], [.t 5], [], [], .mv, some (31, true)⟩,
 ⟨(some 33), [], [.c (.int .i64 1), .c (.int .i64 1)], [], [], .build [.int .i64 0, .int .i64 0] [(0, 1), (1, 1)], some (31, true)⟩,
 ⟨(some 34), [], [.t 3], [3], [], .load true 7, some (31, true)⟩,
 ⟨(some 35), [], [.c (.fn (F n_plaw15_act)), .t 33, .t 34], [], [], .call 0 false, some (31, true)⟩,
 ⟨(some 36), [], [.t 35], [], [], .bslice 6 [.int .i64 0, .int .i64 0, .int .i64 0, .int .i64 0, .bool false, .sl 7 []] [(0, 6)], some (31, true)⟩,
 ⟨(some 37), [32], [.t 32, .t 36], [], [], .append 6 64, some (31, true)⟩,
 ⟨(some 38), [], [.c (.fn (F n_live_All)), .t 37, .c (.sl 3 [])], [], [], .call 0 false, some (31, true)⟩,
 ⟨(some 39), [], [.t 1], [], [], .cp, some (31, true)⟩,
 ⟨(some 40), [], [.t 2], [2], [], .load true 3, some (31, true)⟩,
 ⟨(some 41), [], [.c (.fn (F n_bag_Has)), .t 38, .t 39, .t 40], [], [], .call 0 false, some (31, true)⟩,
 ⟨(some 42), [], [.t 31, .t 41, .c (.bool false)], [], [], .pick, none⟩,
 ⟨(some 0), [42], [.t 42], [], [], .mv, none⟩] [25, 26, 27, 28, 29, 30, 31, 32, 33, 34, 35, 36, 37, 38, 39, 40, 41, 42] [])
 .ret))))))) }

def H_pref15_Adds : Hints := [(0, { ops := [(1, { x := 4 })], kt := [], kb := [] }),
 (2, { ops := [], kt := [10, 11, 12], kb := [] }),
 (4, { ops := [], kt := [13, 14, 15], kb := [] }),
 (5, { ops := [], kt := [13, 14, 15, 16, 17, 18, 19, 20, 21, 22, 23, 24, 25, 26, 27, 28, 29, 30, 31, 32, 33, 34], kb := [] }),
 (6, { ops := [(6, { mr := [5] })], kt := [19, 20, 21, 22, 23, 24, 25], kb := [] }),
 (7, { ops := [(0, { take := true })], kt := [27, 28, 29, 30, 31, 32, 33, 34], kb := [] }),
 (8, { ops := [], kt := [35], kb := [] })]
def c_pref15_Adds (F : Nat → FuncId) : AFun := { nparams := 3, ntmps := 36, results := [.tmp 6], body :=
 (.seq
 (.reg [⟨(some 5), [], [.t 2], [], [5], .box, none⟩,
 ⟨(some 6), [], [.c (.sl 3 [])], [], [], .cp, none⟩] [] [])
 (.seq
 (.reg [⟨(some 7), [], [], [], [], .nils 3, none⟩] [] [])
 (.seq
 (.reg [⟨(some 10), [], [.t 0], [], [], .cp, none⟩,
 ⟨(some 11), [], [.t 1], [], [], .cp, none⟩,
 ⟨(some 12), [], [.c (.fn (F n_pref13_At)), .t 10, .t 11, .c (.int .i64 2)], [], [], .call 0 false, none⟩,
 ⟨(some 8), [12], [.t 12], [], [], .mv, none⟩] [10, 11, 12] [])
 (.seq
 (.seq
 (.reg [⟨(some 9), [], [.c (.int .i64 0)], [], [], .cp, none⟩] [] [])
 (.block 0
 (.loop
 (.seq
 (.seq
 (.reg [⟨(some 13), [], [.t 9], [], [], .cp, none⟩,
 ⟨(some 14), [], [.t 8], [], [], .cp, none⟩,
 ⟨(some 15), [], [.t 14], [], [], .len false, none⟩,
 ⟨(some 16), [], [.t 13, .t 15], [], [], .bini .lss, none⟩] [13, 14, 15] [])
 (.cond (.t 16)
 .skip
 (.exit 0)))
 (.seq
 (.block 1
 (.seq
 (.reg [⟨(some 19), [], [.t 8], [], [], .cp, none⟩,
 ⟨(some 20), [], [.t 9], [], [], .cp, none⟩,
 ⟨(some 21), [], [.t 19, .t 20], [], [], .iaddr none 11, none⟩,
 ⟨(some 22), [], [.t 21], [], [], .faddr 3, none⟩,
 ⟨(some 23), [], [.t 22], [], [], .faddr 2, none⟩,
 ⟨(some 24), [], [.t 23], [], [], .load true 3, none⟩,
 ⟨(some 25), [], [.t 5], [5], [], .load true 3, none⟩,
 ⟨(some 26), [], [.t 24, .t 25], [], [], .eqa [.i, .i, .s] false, none⟩] [19, 20, 21, 22, 23, 24, 25] [])
 (.cond (.t 26)
 (.reg [⟨(some 27), [7], [.t 7], [], [], .mv, none⟩,
 ⟨(some 28), [], [.t 8], [], [], .cp, none⟩,
 ⟨(some 29), [], [.t 9], [], [], .cp, none⟩,
 ⟨(some 30), [], [.t 28, .t 29], [], [], .iaddr none 11, none⟩,
 ⟨(some 31), [], [.t 30], [], [], .faddr 0, none⟩,
 ⟨(some 32), [], [.t 31], [], [], .load true 3, none⟩,
 ⟨(some 33), [], [.t 32], [], [], .bslice 3 [.int .i64 0, .int .i64 0, .int .i64 0] [(0, 3)], none⟩,
 ⟨(some 34), [27], [.t 27, .t 33], [], [], .append 3 24, none⟩,
 ⟨(some 7), [34], [.t 34], [], [], .mv, none⟩] [27, 28, 29, 30, 31, 32, 33, 34] [])
 .skip)))
 (.reg [⟨(some 17), [], [.t 9], [], [], .cp, none⟩,
 ⟨(some 18), [], [.t 17, .c (.int .i64 1)], [], [], .bini .add, none⟩,
 ⟨(some 9), [18], [.t 18], [], [], .mv, none⟩] [13, 14, 15, 16, 17, 18, 19, 20, 21, 22, 23, 24, 25, 26, 27, 28, 29, 30, 31, 32, 33, 34] []))))))
 (.seq
 (.reg [⟨(some 35), [], [.t 7], [], [], .cp, none⟩,
 ⟨(some 6), [35], [.t 35], [], [], .mv, none⟩] [35] [])
 .ret))))) }

def H_pref09_Same : Hints := [(1, { ops := [], kt := [6, 7, 8, 9], kb := [] }),
 (4, { ops := [], kt := [11, 12, 13], kb := [] }),
 (5, { ops := [], kt := [11, 12, 13, 14, 15, 16, 17, 18, 19, 20, 21, 22, 23, 24, 25], kb := [] }),
 (6, { ops := [], kt := [17, 18, 19, 20, 21, 22, 23, 24], kb := [] })]
def c_pref09_Same (F : Nat → FuncId) : AFun := { nparams := 2, ntmps := 26, results := [.tmp 4], body :=
 (.seq
 (.reg [⟨(some 4), [], [.c (.bool false)], [], [], .cp, none⟩] [] [])
 (.seq
 (.seq
 (.reg [⟨(some 6), [], [.t 0], [], [], .cp, none⟩,
 ⟨(some 7), [], [.t 6], [], [], .len false, none⟩,
 ⟨(some 8), [], [.t 1], [], [], .cp, none⟩,
 ⟨(some 9), [], [.t 8], [], [], .len false, none⟩,
 ⟨(some 10), [], [.t 7, .t 9], [], [], .bini .neq, none⟩] [6, 7, 8, 9] [])
 (.cond (.t 10)
 (.seq
 (.reg [⟨(some 4), [], [.c (.bool false)], [], [], .cp, none⟩] [] [])
 .ret)
 .skip))
 (.seq
 (.seq
 (.reg [⟨(some 5), [], [.c (.int .i64 0)], [], [], .cp, none⟩] [] [])
 (.block 0
 (.loop
 (.seq
 (.seq
 (.reg [⟨(some 11), [], [.t 5], [], [], .cp, none⟩,
 ⟨(some 12), [], [.t 0], [], [], .cp, none⟩,
 ⟨(some 13), [], [.t 12], [], [], .len false, none⟩,
 ⟨(some 14), [], [.t 11, .t 13], [], [], .bini .lss, none⟩] [11, 12, 13] [])
 (.cond (.t 14)
 .skip
 (.exit 0)))
 (.seq
 (.block 1
 (.seq
 (.reg [⟨(some 17), [], [.t 0], [], [], .cp, none⟩,
 ⟨(some 18), [], [.t 5], [], [], .cp, none⟩,
 ⟨(some 19), [], [.t 17, .t 18], [], [], .iaddr none 3, none⟩,
 ⟨(some 20), [], [.t 19], [], [], .load true 3, none⟩,
 ⟨(some 21), [], [.t 1], [], [], .cp, none⟩,
 ⟨(some 22), [], [.t 5], [], [], .cp, none⟩,
 ⟨(some 23), [], [.t 21, .t 22], [], [], .iaddr none 3, none⟩,
 ⟨(some 24), [], [.t 23], [], [], .load true 3, none⟩,
 ⟨(some 25), [], [.t 20, .t 24], [], [], .eqa [.i, .i, .s] true, none⟩] [17, 18, 19, 20, 21, 22, 23, 24] [])
 (.cond (.t 25)
 (.seq
 (.reg [⟨(some 4), [], [.c (.bool false)], [], [], .cp, none⟩] [] [])
 .ret)
 .skip)))
 (.reg [⟨(some 15), [], [.t 5], [], [], .cp, none⟩,
 ⟨(some 16), [], [.t 15, .c (.int .i64 1)], [], [], .bini .add, none⟩,
 ⟨(some 5), [16], [.t 16], [], [], .mv, none⟩] [11, 12, 13, 14, 15, 16, 17, 18, 19, 20, 21, 22, 23, 24, 25] []))))))
 (.seq
 (.reg [⟨(some 4), [], [.c (.bool true)], [], [], .cp, none⟩] [] [])
 .ret)))) }

def H_bag_Values : Hints := [(0, { ops := [(0, { x := 4 })], kt := [], kb := [] }),
 (1, { ops := [(0, { x := 1 })], kt := [], kb := [] }),
 (2, { ops := [], kt := [10, 11], kb := [] }),
 (4, { ops := [(3, { mw := [7] })], kt := [16, 17], kb := [] }),
 (5, { ops := [(0, { x := 2 }), (3, { mr := [7] }), (4, { mr := [19], mw := [19], nref := 1, x := 2 })], kt := [18, 19, 20, 21, 22, 23, 24, 25], kb := [], cl := [(5, 19, 3)] }),
 (6, { ops := [], kt := [26], kb := [] }),
 (7, { ops := [(0, { take := true }), (4, { mr := [7] }), (5, { x := 1 }), (6, { x := 1, wb := [28, 33] })], kt := [28, 29, 30, 31, 32, 33, 34], kb := [] }),
 (8, { ops := [], kt := [7, 8, 9, 15, 16, 17, 18, 19, 20, 21, 22, 23, 24, 25, 26, 27, 28, 29, 30, 31, 32, 33, 34, 35], kb := [7] }),
 (9, { ops := [(0, { x := 3 })], kt := [36], kb := [] })]
def c_bag_Values (F : Nat → FuncId) : AFun := { nparams := 2, ntmps := 37, results := [.tmp 4], body :=
 (.seq
 (.reg [⟨(some 4), [], [.c (.sl 3 [])], [], [], .cp, none⟩] [] [])
 (.seq
 (.reg [⟨(some 5), [], [], [], [], .nilsx 3, none⟩] [] [])
 (.seq
 (.seq
 (.reg [⟨(some 10), [], [.t 0], [], [], .cp, none⟩,
 ⟨(some 11), [], [.t 1], [], [], .cp, none⟩,
 ⟨(some 12), [], [.c (.fn (F n_live_At)), .t 10, .t 11, .c (.int .i64 2)], [], [], .call 0 false, none⟩,
 ⟨(some 13), [], [.t 12], [], [], .len false, none⟩,
 ⟨(some 14), [], [.c (.int .i64 0)], [], [], .cp, none⟩] [10, 11] [])
 (.block 0
 (.loop
 (.seq
 (.reg [⟨(some 15), [], [.t 14, .t 13], [], [], .bini .lss, none⟩] [] [])
 (.seq
 (.cond (.t 15)
 .skip
 (.exit 0))
 (.seq
 (.block 1
 (.seq
 (.reg [⟨(some 16), [], [.t 12, .t 14], [], [], .iaddr none 11, none⟩,
 ⟨(some 17), [], [.t 16], [], [], .load true 11, none⟩,
 ⟨(some 7), [], [], [], [7], .alloc [.val (.int .i64 0), .val (.int .i64 0), .val (.int .i64 0), .val (.int .i64 0), .own 1 [], .val (.int .i64 0), .val (.int .i64 0), .val (.str []), .val (.int .i64 0), .own 3 [], .val (.int .i64 0)], none⟩,
 ⟨none, [17], [.t 7, .t 17], [], [7], .store true 11, none⟩] [16, 17] [])
 (.seq
 (.seq (.reg [⟨(some 19), [5], [.t 5], [], [19], .openx, none⟩,
 ⟨(some 20), [], [.t 7], [], [], .faddr 3, none⟩,
 ⟨(some 21), [], [.t 20], [], [], .faddr 2, none⟩,
 ⟨(some 22), [], [.t 21], [7], [], .load true 3, none⟩,
 ⟨(some 23), [], [.c (.fn (F n_slices_BinarySearchFunc_api_Value_api_Value_api_Value)), .t 19, .t 22, .c (.fn (F n_value_Compare))], [19], [], .callb, none⟩,
 ⟨(some 18), [], [.t 23], [], [], .cp, none⟩,
 ⟨(some 24), [], [.t 18], [], [], .extract 0, none⟩,
 ⟨(some 25), [], [.t 18], [], [], .extract 1, none⟩,
 ⟨(some 8), [24], [.t 24], [], [], .mv, none⟩,
 ⟨(some 9), [25], [.t 25], [], [], .mv, none⟩] [18, 19, 20, 21, 22, 23, 24, 25] []) (.close 5 19 3))
 (.seq
 (.reg [⟨(some 26), [], [.t 9], [], [], .cp, none⟩,
 ⟨(some 27), [], [.t 26], [], [], .not, none⟩] [26] [])
 (.cond (.t 27)
 (.reg [⟨(some 28), [5], [.t 5], [], [], .mv, none⟩,
 ⟨(some 29), [], [.t 8], [], [], .cp, none⟩,
 ⟨(some 30), [], [.t 7], [], [], .faddr 3, none⟩,
 ⟨(some 31), [], [.t 30], [], [], .faddr 2, none⟩,
 ⟨(some 32), [], [.t 31], [7], [], .load true 3, none⟩,
 ⟨(some 33), [], [.t 32], [], [], .bslicex 3 [.int .i64 0, .int .i64 0, .str []] [(0, 3)], none⟩,
 ⟨(some 34), [28, 33], [.c (.fn (F n_slices_Insert_api_Value_api_Value)), .t 28, .t 29, .t 33], [], [], .callx 0 false, none⟩,
 ⟨(some 5), [34], [.t 34], [], [], .mv, none⟩] [28, 29, 30, 31, 32, 33, 34] [])
 .skip)))))
 (.reg [⟨(some 35), [], [.t 14, .c (.int .i64 1)], [], [], .bini .add, none⟩,
 ⟨(some 14), [], [.t 35], [], [], .cp, none⟩] [7, 8, 9, 15, 16, 17, 18, 19, 20, 21, 22, 23, 24, 25, 26, 27, 28, 29, 30, 31, 32, 33, 34, 35] [7])))))))
 (.seq
 (.reg [⟨(some 36), [5], [.t 5], [], [], .pubv, none⟩,
 ⟨(some 4), [36], [.t 36], [], [], .mv, none⟩] [36] [])
 .ret)))) }

def H_pref15_Values : Hints := [(0, { ops := [(0, { x := 4 })], kt := [], kb := [] }),
 (1, { ops := [(0, { x := 4 })], kt := [], kb := [] }),
 (2, { ops := [], kt := [8, 9, 10], kb := [] }),
 (4, { ops := [], kt := [11, 12, 13], kb := [] }),
 (5, { ops := [], kt := [11, 12, 13, 14, 15, 16, 17, 18, 19, 20, 21, 22, 23, 24], kb := [] }),
 (6, { ops := [], kt := [17, 18, 19, 20, 21, 22, 23, 24], kb := [] }),
 (7, { ops := [], kt := [25], kb := [] })]
def c_pref15_Values (F : Nat → FuncId) : AFun := { nparams := 2, ntmps := 26, results := [.tmp 4], body :=
 (.seq
 (.reg [⟨(some 4), [], [.c (.sl 3 [])], [], [], .cp, none⟩] [] [])
 (.seq
 (.reg [⟨(some 5), [], [.c (.sl 3 [])], [], [], .cp, none⟩] [] [])
 (.seq
 (.reg [⟨(some 8), [], [.t 0], [], [], .cp, none⟩,
 ⟨(some 9), [], [.t 1], [], [], .cp, none⟩,
 ⟨(some 10), [], [.c (.fn (F n_pref13_At)), .t 8, .t 9, .c (.int .i64 2)], [], [], .call 0 false, none⟩,
 ⟨(some 6), [10], [.t 10], [], [], .mv, none⟩] [8, 9, 10] [])
 (.seq
 (.seq
 (.reg [⟨(some 7), [], [.c (.int .i64 0)], [], [], .cp, none⟩] [] [])
 (.block 0
 (.loop
 (.seq
 (.seq
 (.reg [⟨(some 11), [], [.t 7], [], [], .cp, none⟩,
 ⟨(some 12), [], [.t 6], [], [], .cp, none⟩,
 ⟨(some 13), [], [.t 12], [], [], .len false, none⟩,
 ⟨(some 14), [], [.t 11, .t 13], [], [], .bini .lss, none⟩] [11, 12, 13] [])
 (.cond (.t 14)
 .skip
 (.exit 0)))
 (.seq
 (.block 1
 (.reg [⟨(some 17), [], [.t 5], [], [], .cp, none⟩,
 ⟨(some 18), [], [.t 6], [], [], .cp, none⟩,
 ⟨(some 19), [], [.t 7], [], [], .cp, none⟩,
 ⟨(some 20), [], [.t 18, .t 19], [], [], .iaddr none 11, none⟩,
 ⟨(some 21), [], [.t 20], [], [], .faddr 3, none⟩,
 ⟨(some 22), [], [.t 21], [], [], .faddr 2, none⟩,
 ⟨(some 23), [], [.t 22], [], [], .load true 3, none⟩,
 ⟨(some 24), [], [.c (.fn (F n_pref14_Insert)), .t 17, .t 23], [], [], .call 0 false, none⟩,
 ⟨(some 5), [24], [.t 24], [], [], .mv, none⟩] [17, 18, 19, 20, 21, 22, 23, 24] []))
 (.reg [⟨(some 15), [], [.t 7], [], [], .cp, none⟩,
 ⟨(some 16), [], [.t 15, .c (.int .i64 1)], [], [], .bini .add, none⟩,
 ⟨(some 7), [16], [.t 16], [], [], .mv, none⟩] [11, 12, 13, 14, 15, 16, 17, 18, 19, 20, 21, 22, 23, 24] []))))))
 (.seq
 (.reg [⟨(some 25), [], [.t 5], [], [], .cp, none⟩,
 ⟨(some 4), [25], [.t 25], [], [], .mv, none⟩] [25] [])
 .ret))))) }

def H_bag_Adds : Hints := [(0, { ops := [(1, { x := 4 })], kt := [], kb := [] }),
 (2, { ops := [], kt := [10, 11], kb := [] }),
 (4, { ops := [(3, { mw := [9] })], kt := [16, 17], kb := [] }),
 (5, { ops := [(2, { mr := [9] }), (3, { mr := [5] })], kt := [18, 19, 20, 21], kb := [] }),
 (6, { ops := [(0, { take := true }), (2, { mr := [9] })], kt := [23, 24, 25, 26, 27], kb := [] }),
 (7, { ops := [], kt := [9, 15, 16, 17, 18, 19, 20, 21, 22, 23, 24, 25, 26, 27, 28], kb := [9] }),
 (8, { ops := [], kt := [29], kb := [] })]
def c_bag_Adds (F : Nat → FuncId) : AFun := { nparams := 3, ntmps := 30, results := [.tmp 6], body :=
 (.seq
 (.reg [⟨(some 5), [], [.t 2], [], [5], .box, none⟩,
 ⟨(some 6), [], [.c (.sl 3 [])], [], [], .cp, none⟩] [] [])
 (.seq
 (.reg [⟨(some 7), [], [], [], [], .nils 3, none⟩] [] [])
 (.seq
 (.seq
 (.reg [⟨(some 10), [], [.t 0], [], [], .cp, none⟩,
 ⟨(some 11), [], [.t 1], [], [], .cp, none⟩,
 ⟨(some 12), [], [.c (.fn (F n_live_At)), .t 10, .t 11, .c (.int .i64 2)], [], [], .call 0 false, none⟩,
 ⟨(some 13), [], [.t 12], [], [], .len false, none⟩,
 ⟨(some 14), [], [.c (.int .i64 0)], [], [], .cp, none⟩] [10, 11] [])
 (.block 0
 (.loop
 (.seq
 (.reg [⟨(some 15), [], [.t 14, .t 13], [], [], .bini .lss, none⟩] [] [])
 (.seq
 (.cond (.t 15)
 .skip
 (.exit 0))
 (.seq
 (.block 1
 (.seq
 (.reg [⟨(some 16), [], [.t 12, .t 14], [], [], .iaddr none 11, none⟩,
 ⟨(some 17), [], [.t 16], [], [], .load true 11, none⟩,
 ⟨(some 9), [], [], [], [9], .alloc [.val (.int .i64 0), .val (.int .i64 0), .val (.int .i64 0), .val (.int .i64 0), .own 1 [], .val (.int .i64 0), .val (.int .i64 0), .val (.str []), .val (.int .i64 0), .own 3 [], .val (.int .i64 0)], none⟩,
 ⟨none, [17], [.t 9, .t 17], [], [9], .store true 11, none⟩] [16, 17] [])
 (.seq
 (.reg [⟨(some 18), [], [.t 9], [], [], .faddr 3, none⟩,
 ⟨(some 19), [], [.t 18], [], [], .faddr 2, none⟩,
 ⟨(some 20), [], [.t 19], [9], [], .load true 3, none⟩,
 ⟨(some 21), [], [.t 5], [5], [], .load true 3, none⟩,
 ⟨(some 22), [], [.t 20, .t 21], [], [], .eqa [.i, .i, .s] false, none⟩] [18, 19, 20, 21] [])
 (.cond (.t 22)
 (.reg [⟨(some 23), [7], [.t 7], [], [], .mv, none⟩,
 ⟨(some 24), [], [.t 9], [], [], .faddr 0, none⟩,
 ⟨(some 25), [], [.t 24], [9], [], .load true 3, none⟩,
 ⟨(some 26), [], [.t 25], [], [], .bslice 3 [.int .i64 0, .int .i64 0, .int .i64 0] [(0, 3)], none⟩,
 ⟨(some 27), [23], [.t 23, .t 26], [], [], .append 3 24, none⟩,
 ⟨(some 7), [27], [.t 27], [], [], .mv, none⟩] [23, 24, 25, 26, 27] [])
 .skip))))
 (.reg [⟨(some 28), [], [.t 14, .c (.int .i64 1)], [], [], .bini .add, none⟩,
 ⟨(some 14), [], [.t 28], [], [], .cp, none⟩] [9, 15, 16, 17, 18, 19, 20, 21, 22, 23, 24, 25, 26, 27, 28] [9])))))))
 (.seq
 (.reg [⟨(some 29), [], [.t 7], [], [], .cp, none⟩,
 ⟨(some 6), [29], [.t 29], [], [], .mv, none⟩] [29] [])
 .ret)))) }

def H_bag_Has : Hints := [(1, { ops := [(2, { mr := [5] })], kt := [7, 8, 9, 10, 11, 12], kb := [] })]
def c_bag_Has (F : Nat → FuncId) : AFun := { nparams := 3, ntmps := 13, results := [.tmp 6], body :=
 (.seq
 (.reg [⟨(some 5), [], [.t 2], [], [5], .box, none⟩,
 ⟨(some 6), [], [.c (.bool false)], [], [], .cp, none⟩] [] [])
 (.seq
 (.reg [⟨(some 7), [], [.t 0], [], [], .cp, none⟩,
 ⟨(some 8), [], [.t 1], [], [], .cp, none⟩,
 ⟨(some 9), [], [.t 5], [5], [], .load true 3, none⟩,
 ⟨(some 10), [], [.c (.fn (F n_bag_Adds)), .t 7, .t 8, .t 9], [], [], .call 0 false, none⟩,
 ⟨(some 11), [], [.t 10], [], [], .len false, none⟩,
 ⟨(some 12), [], [.t 11, .c (.int .i64 0)], [], [], .bini .gtr, none⟩,
 ⟨(some 6), [12], [.t 12], [], [], .mv, none⟩] [7, 8, 9, 10, 11, 12] [])
 .ret)) }

def H_plaw15_act : Hints := [(1, { ops := [(0, { mr := [2] }), (1, { mr := [3] }), (4, { mw := [4] })], kt := [5, 6, 7, 8], kb := [] })]
def c_plaw15_act (F : Nat → FuncId) : AFun := { nparams := 2, ntmps := 9, results := [.cell 4 true 6], body :=
 (.seq
 (.reg [⟨(some 2), [], [.t 0], [], [2], .box, none⟩,
 ⟨(some 3), [], [.t 1], [], [3], .box, none⟩,
 ⟨(some 4), [], [], [], [4], .alloc [.val (.int .i64 0), .val (.int .i64 0), .val (.int .i64 0), .val (.int .i64 0), .val (.bool false), .own 7 []], none⟩] [] [])
 (.seq
 (.reg [⟨(some 5), [], [.t 2], [2], [], .load true 2, none⟩,
 ⟨(some 6), [], [.t 3], [3], [], .load true 7, none⟩,
 ⟨(some 7), [], [.t 6], [], [], .bslice 7 [.int .i64 0, .sl 1 [], .int .i64 0, .int .i64 0, .str [], .int .i64 0, .sl 3 []] [(0, 7)], none⟩,
 ⟨(some 8), [], [.t 5, .c (.int .i64 1), .t 7], [], [], .build [.int .i64 0, .int .i64 0, .int .i64 0, .int .i64 0, .bool false, .sl 7 []] [(0, 2), (3, 1), (5, 1)], none⟩,
 ⟨none, [8], [.t 4, .t 8], [], [4], .store true 6, none⟩] [5, 6, 7, 8] [])
 .ret)) }

def H_slices_BinarySearchFunc_api_Value_api_Value_api_Value : Hints := [(1, { ops := [], kt := [12, 13], kb := [] }),
 (2, { ops := [], kt := [14], kb := [] }),
 (3, { ops := [], kt := [15, 16], kb := [] }),
 (4, { ops := [], kt := [18, 19, 20, 21, 22, 23], kb := [] }),
 (5, { ops := [(5, { mr := [4] })], kt := [24, 25, 26, 27, 28, 29, 30], kb := [] }),
 (6, { ops := [], kt := [32, 33], kb := [] }),
 (7, { ops := [], kt := [34], kb := [] }),
 (8, { ops := [(10, { mr := [4] })], kt := [35, 36, 37, 38, 39, 40, 41, 42, 43, 44, 45, 46, 47, 48], kb := [] }),
 (1000001, { ops := [], kt := [11, 15, 16, 17, 18, 19, 20, 21, 22, 23, 24, 25, 26, 27, 28, 29, 30, 31, 32, 33, 34], kb := [] })]
def c_slices_BinarySearchFunc_api_Value_api_Value_api_Value (F : Nat → FuncId) : AFun := { nparams := 3, ntmps := 49, results := [.tmp 6, .tmp 7], body :=
 (.seq
 (.reg [⟨(some 4), [], [.t 1], [], [4], .box, none⟩,
 ⟨(some 6), [], [.c (.int .i64 0)], [], [], .cp, none⟩,
 ⟨(some 7), [], [.c (.bool false)], [], [], .cp, none⟩] [] [])
 (.seq
 (.reg [⟨(some 12), [], [.t 0], [], [], .cp, none⟩,
 ⟨(some 13), [], [.t 12], [], [], .len false, none⟩,
 ⟨(some 8), [13], [.t 13], [], [], .mv, none⟩] [12, 13] [])
 (.seq
 (.reg [⟨(some 14), [], [.t 8], [], [], .cp, none⟩,
 ⟨(some 9), [], [.c (.int .i64 0)], [], [], .cp, none⟩,
 ⟨(some 10), [14], [.t 14], [], [], .mv, none⟩] [14] [])
 (.seq
 (.block 0
 (.loop
 (.seq
 (.seq
 (.reg [⟨(some 15), [], [.t 9], [], [], .cp, none⟩,
 ⟨(some 16), [], [.t 10], [], [], .cp, none⟩,
 ⟨(some 17), [], [.t 15, .t 16], [], [], .bini .lss, none⟩] [15, 16] [])
 (.cond (.t 17)
 .skip
 (.exit 0)))
 (.seq
 (.block 1
 (.seq
 (.reg [⟨(some 18), [], [.t 9], [], [], .cp, none⟩,
 ⟨(some 19), [], [.t 10], [], [], .cp, none⟩,
 ⟨(some 20), [], [.t 18, .t 19], [], [], .bini .add, none⟩,
 ⟨(some 21), [], [.t 20], [], [], .conv .u64, none⟩,
 ⟨(some 22), [], [.t 21, .c (.int .u64 1)], [], [], .bini .shr, none⟩,
 ⟨(some 23), [], [.t 22], [], [], .conv .i64, none⟩,
 ⟨(some 11), [23], [.t 23], [], [], .mv, none⟩] [18, 19, 20, 21, 22, 23] [])
 (.seq
 (.reg [⟨(some 24), [], [.t 2], [], [], .cp, none⟩,
 ⟨(some 25), [], [.t 0], [], [], .cp, none⟩,
 ⟨(some 26), [], [.t 11], [], [], .cp, none⟩,
 ⟨(some 27), [], [.t 25, .t 26], [], [], .iaddr none 3, none⟩,
 ⟨(some 28), [], [.t 27], [], [], .load true 3, none⟩,
 ⟨(some 29), [], [.t 4], [4], [], .load true 3, none⟩,
 ⟨(some 30), [], [.t 24, .t 28, .t 29], [], [], .call 0 false, none⟩,
 ⟨(some 31), [], [.t 30, .c (.int .i64 0)], [], [], .bini .lss, none⟩] [24, 25, 26, 27, 28, 29, 30] [])
 (.cond (.t 31)
 (.reg [⟨(some 32), [], [.t 11], [], [], .cp, none⟩,
 ⟨(some 33), [], [.t 32, .c (.int .i64 1)], [], [], .bini .add, none⟩,
 ⟨(some 9), [33], [.t 33], [], [], .mv, none⟩] [32, 33] [])
 (.reg [⟨(some 34), [], [.t 11], [], [], .cp, none⟩,
 ⟨(some 10), [34], [.t 34], [], [], .mv, none⟩] [34] [])))))
 (.reg [] [11, 15, 16, 17, 18, 19, 20, 21, 22, 23, 24, 25, 26, 27, 28, 29, 30, 31, 32, 33, 34] [])))))
 (.seq
 (.reg [⟨(some 35), [], [.t 9], [], [], .cp, none⟩,
 ⟨(some 36), [], [.t 9], [], [], .cp, none⟩,
 ⟨(some 37), [], [.t 8], [], [], .cp, none⟩,
 ⟨(some 38), [], [.t 36, .t 37], [], [], .bini .lss, none⟩,
 ⟨(some 39), [], [.t 38], [], [], .cp, none⟩,
 ⟨(some 40), [], [.t 2], [], [], .cp, some (39, true)⟩,
 ⟨(some 41), [], [.t 0], [], [], .cp, some (39, true)⟩,
 ⟨(some 42), [], [.t 9], [], [], .cp, some (39, true)⟩,
 ⟨(some 43), [], [.t 41, .t 42], [], [], .iaddr none 3, some (39, true)⟩,
 ⟨(some 44), [], [.t 43], [], [], .load true 3, some (39, true)⟩,
 ⟨(some 45), [], [.t 4], [4], [], .load true 3, some (39, true)⟩,
 ⟨(some 46), [], [.t 40, .t 44, .t 45], [], [], .call 0 false, some (39, true)⟩,
 ⟨(some 47), [], [.t 46, .c (.int .i64 0)], [], [], .bini .eql, some (39, true)⟩,
 ⟨(some 48), [], [.t 39, .t 47, .c (.bool false)], [], [], .pick, none⟩,
 ⟨(some 6), [35], [.t 35], [], [], .mv, none⟩,
 ⟨(some 7), [48], [.t 48], [], [], .mv, none⟩] [35, 36, 37, 38, 39, 40, 41, 42, 43, 44, 45, 46, 47, 48] [])
 .ret))))) }

def H_value_Compare : Hints := [(1, { ops := [(1, { mr := [2] }), (3, { mr := [3] }), (6, { mr := [2] }), (8, { mr := [3] }), (11, { mr := [2] }), (13, { mr := [3] })], kt := [5, 6, 7, 8, 9, 10, 11, 12, 13, 14, 15, 16, 17, 18, 19, 20, 21], kb := [] })]
def c_value_Compare (F : Nat → FuncId) : AFun := { nparams := 2, ntmps := 22, results := [.tmp 4], body :=
 (.seq
 (.reg [⟨(some 2), [], [.t 0], [], [2], .box, none⟩,
 ⟨(some 3), [], [.t 1], [], [3], .box, none⟩,
 ⟨(some 4), [], [.c (.int .i64 0)], [], [], .cp, none⟩] [] [])
 (.seq
 (.reg [⟨(some 5), [], [.t 2], [], [], .faddr 0, none⟩,
 ⟨(some 6), [], [.t 5], [2], [], .load false 1, none⟩,
 ⟨(some 7), [], [.t 3], [], [], .faddr 0, none⟩,
 ⟨(some 8), [], [.t 7], [3], [], .load false 1, none⟩,
 ⟨(some 9), [], [.c (.fn (F n_cmp_Compare_int)), .t 6, .t 8], [], [], .call 0 false, none⟩,
 ⟨(some 10), [], [.t 2], [], [], .faddr 1, none⟩,
 ⟨(some 11), [], [.t 10], [2], [], .load false 1, none⟩,
 ⟨(some 12), [], [.t 3], [], [], .faddr 1, none⟩,
 ⟨(some 13), [], [.t 12], [3], [], .load false 1, none⟩,
 ⟨(some 14), [], [.c (.fn (F n_cmp_Compare_int)), .t 11, .t 13], [], [], .call 0 false, none⟩,
 ⟨(some 15), [], [.t 2], [], [], .faddr 2, none⟩,
 ⟨(some 16), [], [.t 15], [2], [], .load false 1, none⟩,
 ⟨(some 17), [], [.t 3], [], [], .faddr 2, none⟩,
 ⟨(some 18), [], [.t 17], [3], [], .load false 1, none⟩,
 ⟨(some 19), [], [.c (.fn (F n_strings_Compare)), .t 16, .t 18], [], [], .call 0 false, none⟩,
 ⟨(some 20), [], [.t 9, .t 14, .t 19], [], [], .bslice 1 [.int .i64 0, .int .i64 0, .int .i64 0] [(0, 1), (1, 1), (2, 1)], none⟩,
 ⟨(some 21), [], [.c (.fn (F n_cmp_Or_int)), .t 20], [], [], .call 0 false, none⟩,
 ⟨(some 4), [21], [.t 21], [], [], .mv, none⟩] [5, 6, 7, 8, 9, 10, 11, 12, 13, 14, 15, 16, 17, 18, 19, 20, 21] [])
 .ret)) }

def H_pref14_Insert : Hints := [(0, { ops := [(1, { x := 4 })], kt := [], kb := [] }),
 (4, { ops := [], kt := [9, 10, 11], kb := [] }),
 (5, { ops := [], kt := [8, 9, 10, 11, 12, 13, 14, 15, 16, 17, 18, 19, 20, 21, 22, 23, 24, 25, 26, 27, 28, 29, 30, 31, 32, 33, 34, 35, 36, 37, 38, 39, 40], kb := [] }),
 (6, { ops := [(0, { mr := [3] })], kt := [15, 16, 17, 18, 19, 20], kb := [] }),
 (7, { ops := [], kt := [21], kb := [] }),
 (8, { ops := [], kt := [23], kb := [] }),
 (9, { ops := [], kt := [24, 25, 26, 27, 28], kb := [] }),
 (10, { ops := [(0, { take := true }), (1, { mr := [3] })], kt := [30, 31, 32, 33], kb := [] }),
 (12, { ops := [(0, { take := true })], kt := [34, 35, 36, 37, 38, 39, 40], kb := [] }),
 (13, { ops := [], kt := [41], kb := [] }),
 (14, { ops := [(0, { take := true }), (1, { mr := [3] })], kt := [43, 44, 45, 46], kb := [] }),
 (15, { ops := [], kt := [47], kb := [] })]
def c_pref14_Insert (F : Nat → FuncId) : AFun := { nparams := 2, ntmps := 48, results := [.tmp 4], body :=
 (.seq
 (.reg [⟨(some 3), [], [.t 1], [], [3], .box, none⟩,
 ⟨(some 4), [], [.c (.sl 3 [])], [], [], .cp, none⟩] [] [])
 (.seq
 (.reg [⟨(some 5), [], [], [], [], .nils 3, none⟩] [] [])
 (.seq
 (.reg [⟨(some 6), [], [.c (.bool false)], [], [], .cp, none⟩] [] [])
 (.seq
 (.seq
 (.reg [⟨(some 7), [], [.c (.int .i64 0)], [], [], .cp, none⟩] [] [])
 (.block 0
 (.loop
 (.seq
 (.seq
 (.reg [⟨(some 9), [], [.t 7], [], [], .cp, none⟩,
 ⟨(some 10), [], [.t 0], [], [], .cp, none⟩,
 ⟨(some 11), [], [.t 10], [], [], .len false, none⟩,
 ⟨(some 12), [], [.t 9, .t 11], [], [], .bini .lss, none⟩] [9, 10, 11] [])
 (.cond (.t 12)
 .skip
 (.exit 0)))
 (.seq
 (.block 1
 (.seq
 (.reg [⟨(some 15), [], [.t 3], [3], [], .load true 3, none⟩,
 ⟨(some 16), [], [.t 0], [], [], .cp, none⟩,
 ⟨(some 17), [], [.t 7], [], [], .cp, none⟩,
 ⟨(some 18), [], [.t 16, .t 17], [], [], .iaddr none 3, none⟩,
 ⟨(some 19), [], [.t 18], [], [], .load true 3, none⟩,
 ⟨(some 20), [], [.c (.fn (F n_pref09_Compare)), .t 15, .t 19], [], [], .call 0 false, none⟩,
 ⟨(some 8), [20], [.t 20], [], [], .mv, none⟩] [15, 16, 17, 18, 19, 20] [])
 (.seq
 (.seq
 (.reg [⟨(some 21), [], [.t 8], [], [], .cp, none⟩,
 ⟨(some 22), [], [.t 21, .c (.int .i64 0)], [], [], .bini .eql, none⟩] [21] [])
 (.cond (.t 22)
 (.seq
 (.reg [⟨(some 23), [], [.t 0], [], [], .cp, none⟩,
 ⟨(some 4), [23], [.t 23], [], [], .mv, none⟩] [23] [])
 .ret)
 .skip))
 (.seq
 (.seq
 (.reg [⟨(some 24), [], [.t 8], [], [], .cp, none⟩,
 ⟨(some 25), [], [.t 24, .c (.int .i64 0)], [], [], .bini .lss, none⟩,
 ⟨(some 26), [], [.t 25], [], [], .cp, none⟩,
 ⟨(some 27), [], [.t 6], [], [], .cp, some (26, true)⟩,
 ⟨(some 28), [], [.t 27], [], [], .not, some (26, true)⟩,
 ⟨(some 29), [], [.t 26, .t 28, .c (.bool false)], [], [], .pick, none⟩] [24, 25, 26, 27, 28] [])
 (.cond (.t 29)
 (.seq
 (.reg [⟨(some 30), [5], [.t 5], [], [], .mv, none⟩,
 ⟨(some 31), [], [.t 3], [3], [], .load true 3, none⟩,
 ⟨(some 32), [], [.t 31], [], [], .bslice 3 [.int .i64 0, .int .i64 0, .str []] [(0, 3)], none⟩,
 ⟨(some 33), [30], [.t 30, .t 32], [], [], .append 3 32, none⟩,
 ⟨(some 5), [33], [.t 33], [], [], .mv, none⟩] [30, 31, 32, 33] [])
 (.reg [⟨(some 6), [], [.c (.bool true)], [], [], .cp, none⟩] [] []))
 .skip))
 (.reg [⟨(some 34), [5], [.t 5], [], [], .mv, none⟩,
 ⟨(some 35), [], [.t 0], [], [], .cp, none⟩,
 ⟨(some 36), [], [.t 7], [], [], .cp, none⟩,
 ⟨(some 37), [], [.t 35, .t 36], [], [], .iaddr none 3, none⟩,
 ⟨(some 38), [], [.t 37], [], [], .load true 3, none⟩,
 ⟨(some 39), [], [.t 38], [], [], .bslice 3 [.int .i64 0, .int .i64 0, .str []] [(0, 3)], none⟩,
 ⟨(some 40), [34], [.t 34, .t 39], [], [], .append 3 32, none⟩,
 ⟨(some 5), [40], [.t 40], [], [], .mv, none⟩] [34, 35, 36, 37, 38, 39, 40] [])))))
 (.reg [⟨(some 13), [], [.t 7], [], [], .cp, none⟩,
 ⟨(some 14), [], [.t 13, .c (.int .i64 1)], [], [], .bini .add, none⟩,
 ⟨(some 7), [14], [.t 14], [], [], .mv, none⟩] [8, 9, 10, 11, 12, 13, 14, 15, 16, 17, 18, 19, 20, 21, 22, 23, 24, 25, 26, 27, 28, 29, 30, 31, 32, 33, 34, 35, 36, 37, 38, 39, 40] []))))))
 (.seq
 (.seq
 (.reg [⟨(some 41), [], [.t 6], [], [], .cp, none⟩,
 ⟨(some 42), [], [.t 41], [], [], .not, none⟩] [41] [])
 (.cond (.t 42)
 (.reg [⟨(some 43), [5], [.t 5], [], [], .mv, none⟩,
 ⟨(some 44), [], [.t 3], [3], [], .load true 3, none⟩,
 ⟨(some 45), [], [.t 44], [], [], .bslice 3 [.int .i64 0, .int .i64 0, .str []] [(0, 3)], none⟩,
 ⟨(some 46), [43], [.t 43, .t 45], [], [], .append 3 32, none⟩,
 ⟨(some 5), [46], [.t 46], [], [], .mv, none⟩] [43, 44, 45, 46] [])
 .skip))
 (.seq
 (.reg [⟨(some 47), [], [.t 5], [], [], .cp, none⟩,
 ⟨(some 4), [47], [.t 47], [], [], .mv, none⟩] [47] [])
 .ret)))))) }

def H_pref09_Compare : Hints := [(1, { ops := [(1, { mr := [2] }), (3, { mr := [3] })], kt := [5, 6, 7, 8], kb := [] }),
 (2, { ops := [(1, { mr := [2] }), (3, { mr := [3] })], kt := [10, 11, 12, 13, 14], kb := [] }),
 (3, { ops := [(1, { mr := [2] }), (3, { mr := [3] })], kt := [15, 16, 17, 18], kb := [] }),
 (4, { ops := [(1, { mr := [2] }), (3, { mr := [3] })], kt := [20, 21, 22, 23, 24], kb := [] }),
 (5, { ops := [(1, { mr := [2] }), (3, { mr := [3] })], kt := [25, 26, 27, 28, 29], kb := [] })]
def c_pref09_Compare (F : Nat → FuncId) : AFun := { nparams := 2, ntmps := 30, results := [.tmp 4], body :=
 (.seq
 (.reg [⟨(some 2), [], [.t 0], [], [2], .box, none⟩,
 ⟨(some 3), [], [.t 1], [], [3], .box, none⟩,
 ⟨(some 4), [], [.c (.int .i64 0)], [], [], .cp, none⟩] [] [])
 (.seq
 (.seq
 (.reg [⟨(some 5), [], [.t 2], [], [], .faddr 0, none⟩,
 ⟨(some 6), [], [.t 5], [2], [], .load false 1, none⟩,
 ⟨(some 7), [], [.t 3], [], [], .faddr 0, none⟩,
 ⟨(some 8), [], [.t 7], [3], [], .load false 1, none⟩,
 ⟨(some 9), [], [.t 6, .t 8], [], [], .bini .neq, none⟩] [5, 6, 7, 8] [])
 (.cond (.t 9)
 (.seq
 (.reg [⟨(some 10), [], [.t 2], [], [], .faddr 0, none⟩,
 ⟨(some 11), [], [.t 10], [2], [], .load false 1, none⟩,
 ⟨(some 12), [], [.t 3], [], [], .faddr 0, none⟩,
 ⟨(some 13), [], [.t 12], [3], [], .load false 1, none⟩,
 ⟨(some 14), [], [.c (.fn (F n_pref09_ints)), .t 11, .t 13], [], [], .call 0 false, none⟩,
 ⟨(some 4), [14], [.t 14], [], [], .mv, none⟩] [10, 11, 12, 13, 14] [])
 .ret)
 .skip))
 (.seq
 (.seq
 (.reg [⟨(some 15), [], [.t 2], [], [], .faddr 1, none⟩,
 ⟨(some 16), [], [.t 15], [2], [], .load false 1, none⟩,
 ⟨(some 17), [], [.t 3], [], [], .faddr 1, none⟩,
 ⟨(some 18), [], [.t 17], [3], [], .load false 1, none⟩,
 ⟨(some 19), [], [.t 16, .t 18], [], [], .bini .neq, none⟩] [15, 16, 17, 18] [])
 (.cond (.t 19)
 (.seq
 (.reg [⟨(some 20), [], [.t 2], [], [], .faddr 1, none⟩,
 ⟨(some 21), [], [.t 20], [2], [], .load false 1, none⟩,
 ⟨(some 22), [], [.t 3], [], [], .faddr 1, none⟩,
 ⟨(some 23), [], [.t 22], [3], [], .load false 1, none⟩,
 ⟨(some 24), [], [.c (.fn (F n_pref09_ints)), .t 21, .t 23], [], [], .call 0 false, none⟩,
 ⟨(some 4), [24], [.t 24], [], [], .mv, none⟩] [20, 21, 22, 23, 24] [])
 .ret)
 .skip))
 (.seq
 (.reg [⟨(some 25), [], [.t 2], [], [], .faddr 2, none⟩,
 ⟨(some 26), [], [.t 25], [2], [], .load false 1, none⟩,
 ⟨(some 27), [], [.t 3], [], [], .faddr 2, none⟩,
 ⟨(some 28), [], [.t 27], [3], [], .load false 1, none⟩,
 ⟨(some 29), [], [.c (.fn (F n_pref09_Texts)), .t 26, .t 28], [], [], .call 0 false, none⟩,
 ⟨(some 4), [29], [.t 29], [], [], .mv, none⟩] [25, 26, 27, 28, 29] [])
 .ret)))) }

end Go.AR
