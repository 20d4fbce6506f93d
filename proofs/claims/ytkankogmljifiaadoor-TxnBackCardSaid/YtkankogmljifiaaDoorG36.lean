import Derived.Test.YtkankogmljifiaaDoorG02
import Derived.Test.YtkankogmljifiaaDoorG03
set_option linter.all false
/-! Codes, printed by program. -/
namespace Go.AR
def H_plaw12_TxnBack : Hints := [(1, { ops := [], kt := [6, 7], kb := [] }),
 (2, { ops := [], kt := [9], kb := [] }),
 (3, { ops := [(2, { mw := [12], new := true })], kt := [10, 11, 12], kb := [] }),
 (4, { ops := [(7, { mw := [12], nref := 1 }), (14, { mw := [12], nref := 1 })], kt := [13, 14, 15, 16, 17, 18, 19, 20, 21, 22, 23, 24, 25, 26, 27, 28], kb := [] }),
 (7, { ops := [], kt := [30, 31, 32], kb := [] }),
 (8, { ops := [], kt := [5, 30, 31, 32, 33, 34, 35, 36, 37, 38, 39, 40, 41, 42, 43, 44, 45, 46, 47, 48, 49, 50, 51, 52, 53, 54, 55, 56, 57, 58, 59, 60, 61, 62, 63], kb := [41] }),
 (9, { ops := [(5, { mw := [41], new := true })], kt := [36, 37, 38, 39, 40, 41], kb := [] }),
 (10, { ops := [(1, { mw := [41], nref := 1 }), (10, { mw := [41], nref := 1 })], kt := [42, 43, 44, 45, 46, 47, 48, 49, 50, 51, 52, 53, 54, 55, 56, 57, 58, 59, 60, 61, 62], kb := [] }),
 (12, { ops := [], kt := [64], kb := [] })]
def c_plaw12_TxnBack (F : Nat → FuncId) : AFun := { nparams := 1, ntmps := 65, results := [.tmp 2], body :=
 (.seq
 (.reg [⟨(some 2), [], [.c (.bool false)], [], [], .cp, none⟩] [] [])
 (.seq
 (.seq
 (.reg [⟨(some 6), [], [.t 0], [], [], .cp, none⟩,
 ⟨(some 7), [], [.c (.fn (F n_pref12_Good)), .t 6, .c (.int .i64 30)], [], [], .call 0 false, none⟩,
 ⟨(some 8), [], [.t 7], [], [], .not, none⟩] [6, 7] [])
 (.cond (.t 8)
 (.seq
 (.reg [⟨(some 9), [], [.c (.fn (F n_plaw12_awake))], [], [], .call 0 false, none⟩,
 ⟨(some 2), [9], [.t 9], [], [], .mv, none⟩] [9] [])
 .ret)
 .skip))
 (.seq
 (.reg [⟨(some 10), [], [.t 0], [], [], .cp, none⟩,
 ⟨(some 11), [], [.c (.fn (F n_txn_List)), .t 10], [], [], .call 0 false, none⟩,
 ⟨(some 12), [], [.c (.fn (F n_pack_Open)), .t 11], [], [12], .call 0 true, none⟩,
 ⟨(some 3), [12], [.t 12], [], [], .mv, none⟩] [10, 11, 12] [])
 (.seq
 (.seq
 (.reg [⟨(some 13), [], [.t 0], [], [], .cp, none⟩,
 ⟨(some 14), [], [.c (.fn (F n_txn_List)), .t 13], [], [], .call 0 false, none⟩,
 ⟨(some 15), [], [.t 0], [], [], .cp, none⟩,
 ⟨(some 16), [], [.c (.fn (F n_pref12_List)), .t 15], [], [], .call 0 false, none⟩,
 ⟨(some 17), [], [.t 14, .t 16], [], [], .bins .neq, none⟩,
 ⟨(some 18), [], [.t 17], [], [], .cp, none⟩,
 ⟨(some 19), [], [.t 3], [], [], .cp, some (18, false)⟩,
 ⟨(some 20), [], [.c (.fn (F n_txn_ReadList)), .t 19, .c (.int .i64 30)], [], [12], .call 1 false, some (18, false)⟩,
 ⟨(some 21), [], [.t 0], [], [], .cp, some (18, false)⟩,
 ⟨(some 22), [], [.c (.fn (F n_pref12_All)), .t 20, .t 21], [], [], .call 0 false, some (18, false)⟩,
 ⟨(some 23), [], [.t 22], [], [], .not, some (18, false)⟩,
 ⟨(some 24), [], [.t 18, .c (.bool true), .t 23], [], [], .pick, none⟩,
 ⟨(some 25), [], [.t 24], [], [], .cp, none⟩,
 ⟨(some 26), [], [.t 3], [], [], .cp, some (25, false)⟩,
 ⟨(some 27), [], [.c (.fn (F n_pack_Reader_End)), .t 26], [], [12], .call 1 false, some (25, false)⟩,
 ⟨(some 28), [], [.t 27, .c (.int .i64 0)], [], [], .bini .neq, some (25, false)⟩,
 ⟨(some 29), [], [.t 25, .c (.bool true), .t 28], [], [], .pick, none⟩] [13, 14, 15, 16, 17, 18, 19, 20, 21, 22, 23, 24, 25, 26, 27, 28] [])
 (.cond (.t 29)
 (.seq
 (.reg [⟨(some 2), [], [.c (.bool false)], [], [], .cp, none⟩] [] [])
 .ret)
 .skip))
 (.seq
 (.seq
 (.reg [⟨(some 4), [], [.c (.int .i64 0)], [], [], .cp, none⟩] [] [])
 (.block 0
 (.loop
 (.seq
 (.seq
 (.reg [⟨(some 30), [], [.t 4], [], [], .cp, none⟩,
 ⟨(some 31), [], [.t 0], [], [], .cp, none⟩,
 ⟨(some 32), [], [.t 31], [], [], .len false, none⟩,
 ⟨(some 33), [], [.t 30, .t 32], [], [], .bini .lss, none⟩] [30, 31, 32] [])
 (.cond (.t 33)
 .skip
 (.exit 0)))
 (.seq
 (.block 1
 (.seq
 (.reg [⟨(some 36), [], [.t 0], [], [], .cp, none⟩,
 ⟨(some 37), [], [.t 4], [], [], .cp, none⟩,
 ⟨(some 38), [], [.t 36, .t 37], [], [], .iaddr none 6, none⟩,
 ⟨(some 39), [], [.t 38], [], [], .load true 6, none⟩,
 ⟨(some 40), [], [.c (.fn (F n_txn_Code)), .t 39], [], [], .call 0 false, none⟩,
 ⟨(some 41), [], [.c (.fn (F n_pack_Open)), .t 40], [], [41], .call 0 true, none⟩,
 ⟨(some 5), [41], [.t 41], [], [], .mv, none⟩] [36, 37, 38, 39, 40, 41] [])
 (.seq
 (.reg [⟨(some 42), [], [.t 5], [], [], .cp, none⟩,
 ⟨(some 43), [], [.c (.fn (F n_txn_Read)), .t 42], [], [41], .call 1 false, none⟩,
 ⟨(some 44), [], [.t 0], [], [], .cp, none⟩,
 ⟨(some 45), [], [.t 4], [], [], .cp, none⟩,
 ⟨(some 46), [], [.t 44, .t 45], [], [], .iaddr none 6, none⟩,
 ⟨(some 47), [], [.t 46], [], [], .load true 6, none⟩,
 ⟨(some 48), [], [.c (.fn (F n_pref12_Same)), .t 43, .t 47], [], [], .call 0 false, none⟩,
 ⟨(some 49), [], [.t 48], [], [], .not, none⟩,
 ⟨(some 50), [], [.t 49], [], [], .cp, none⟩,
 ⟨(some 51), [], [.t 5], [], [], .cp, some (50, false)⟩,
 ⟨(some 52), [], [.c (.fn (F n_pack_Reader_End)), .t 51], [], [41], .call 1 false, some (50, false)⟩,
 ⟨(some 53), [], [.t 52, .c (.int .i64 0)], [], [], .bini .neq, some (50, false)⟩,
 ⟨(some 54), [], [.t 50, .c (.bool true), .t 53], [], [], .pick, none⟩,
 ⟨(some 55), [], [.t 54], [], [], .cp, none⟩,
 ⟨(some 56), [], [.t 0], [], [], .cp, some (55, false)⟩,
 ⟨(some 57), [], [.t 4], [], [], .cp, some (55, false)⟩,
 ⟨(some 58), [], [.t 56, .t 57], [], [], .iaddr none 6, some (55, false)⟩,
 ⟨(some 59), [], [.t 58], [], [], .faddr 0, some (55, false)⟩,
 ⟨(some 60), [], [.t 59], [], [], .load true 2, some (55, false)⟩,
 ⟨(some 61), [], [.c (.fn (F n_pref04_Right)), .t 60], [], [], .call 0 false, some (55, false)⟩,
 ⟨(some 62), [], [.t 61], [], [], .not, some (55, false)⟩,
 ⟨(some 63), [], [.t 55, .c (.bool true), .t 62], [], [], .pick, none⟩] [42, 43, 44, 45, 46, 47, 48, 49, 50, 51, 52, 53, 54, 55, 56, 57, 58, 59, 60, 61, 62] [])
 (.cond (.t 63)
 (.seq
 (.reg [⟨(some 2), [], [.c (.bool false)], [], [], .cp, none⟩] [] [])
 .ret)
 .skip))))
 (.reg [⟨(some 34), [], [.t 4], [], [], .cp, none⟩,
 ⟨(some 35), [], [.t 34, .c (.int .i64 1)], [], [], .bini .add, none⟩,
 ⟨(some 4), [35], [.t 35], [], [], .mv, none⟩] [5, 30, 31, 32, 33, 34, 35, 36, 37, 38, 39, 40, 41, 42, 43, 44, 45, 46, 47, 48, 49, 50, 51, 52, 53, 54, 55, 56, 57, 58, 59, 60, 61, 62, 63] [41]))))))
 (.seq
 (.reg [⟨(some 64), [], [.c (.fn (F n_plaw12_awake))], [], [], .call 0 false, none⟩,
 ⟨(some 2), [64], [.t 64], [], [], .mv, none⟩] [64] [])
 .ret)))))) }

def H_pref12_Short : Hints := [(1, { ops := [(1, { mr := [1] })], kt := [4, 5, 6], kb := [] }),
 (4, { ops := [(2, { mr := [1] })], kt := [8, 9, 10, 11], kb := [] }),
 (5, { ops := [], kt := [8, 9, 10, 11, 12, 13, 14, 15, 16, 17, 18, 19, 20, 21], kb := [] }),
 (6, { ops := [(1, { mr := [1] })], kt := [15, 16, 17, 18, 19, 20], kb := [] })]
def c_pref12_Short (F : Nat → FuncId) : AFun := { nparams := 1, ntmps := 22, results := [.tmp 2], body :=
 (.seq
 (.reg [⟨(some 1), [], [.t 0], [], [1], .box, none⟩,
 ⟨(some 2), [], [.c (.bool false)], [], [], .cp, none⟩] [] [])
 (.seq
 (.seq
 (.reg [⟨(some 4), [], [.t 1], [], [], .faddr 5, none⟩,
 ⟨(some 5), [], [.t 4], [1], [], .load false 1, none⟩,
 ⟨(some 6), [], [.t 5], [], [], .len false, none⟩,
 ⟨(some 7), [], [.t 6, .c (.int .i64 20)], [], [], .bini .gtr, none⟩] [4, 5, 6] [])
 (.cond (.t 7)
 (.seq
 (.reg [⟨(some 2), [], [.c (.bool false)], [], [], .cp, none⟩] [] [])
 .ret)
 .skip))
 (.seq
 (.seq
 (.reg [⟨(some 3), [], [.c (.int .i64 0)], [], [], .cp, none⟩] [] [])
 (.block 0
 (.loop
 (.seq
 (.seq
 (.reg [⟨(some 8), [], [.t 3], [], [], .cp, none⟩,
 ⟨(some 9), [], [.t 1], [], [], .faddr 5, none⟩,
 ⟨(some 10), [], [.t 9], [1], [], .load false 1, none⟩,
 ⟨(some 11), [], [.t 10], [], [], .len false, none⟩,
 ⟨(some 12), [], [.t 8, .t 11], [], [], .bini .lss, none⟩] [8, 9, 10, 11] [])
 (.cond (.t 12)
 .skip
 (.exit 0)))
 (.seq
 (.block 1
 (.seq
 (.reg [⟨(some 15), [], [.t 1], [], [], .faddr 5, none⟩,
 ⟨(some 16), [], [.t 15], [1], [], .load false 1, none⟩,
 ⟨(some 17), [], [.t 3], [], [], .cp, none⟩,
 ⟨(some 18), [], [.t 16, .t 17], [], [], .iaddr none 7, none⟩,
 ⟨(some 19), [], [.t 18], [], [], .load true 7, none⟩,
 ⟨(some 20), [], [.c (.fn (F n_pref11_Short)), .t 19], [], [], .call 0 false, none⟩,
 ⟨(some 21), [], [.t 20], [], [], .not, none⟩] [15, 16, 17, 18, 19, 20] [])
 (.cond (.t 21)
 (.seq
 (.reg [⟨(some 2), [], [.c (.bool false)], [], [], .cp, none⟩] [] [])
 .ret)
 .skip)))
 (.reg [⟨(some 13), [], [.t 3], [], [], .cp, none⟩,
 ⟨(some 14), [], [.t 13, .c (.int .i64 1)], [], [], .bini .add, none⟩,
 ⟨(some 3), [14], [.t 14], [], [], .mv, none⟩] [8, 9, 10, 11, 12, 13, 14, 15, 16, 17, 18, 19, 20, 21] []))))))
 (.seq
 (.reg [⟨(some 2), [], [.c (.bool true)], [], [], .cp, none⟩] [] [])
 .ret)))) }

def H_plaw12_awake : Hints := [(1, { ops := [(4, { mw := [1] }), (5, { mw := [2] })], kt := [3, 4], kb := [] }),
 (2, { ops := [(0, { mr := [1] }), (4, { mr := [1] }), (5, { mr := [2] }), (10, { mr := [1] }), (11, { mr := [2] }), (14, { mr := [2] }), (19, { mr := [1] }), (20, { mr := [1] }), (24, { mr := [1] }), (25, { mr := [2] })], kt := [5, 6, 7, 8, 9, 10, 11, 12, 13, 14, 15, 16, 17, 18, 19, 20, 21, 22, 23, 24, 25, 26, 27, 28, 29, 30, 31, 32, 33], kb := [] })]
def c_plaw12_awake (F : Nat → FuncId) : AFun := { nparams := 0, ntmps := 34, results := [.tmp 0], body :=
 (.seq
 (.reg [⟨(some 0), [], [.c (.bool false)], [], [], .cp, none⟩] [] [])
 (.seq
 (.reg [⟨(some 3), [], [.c (.fn (F n_plaw12_one)), .c (.int .i64 0), .c (.int .i64 9), .c (.int .i64 5)], [], [], .call 0 false, none⟩,
 ⟨(some 4), [], [.c (.fn (F n_plaw12_one)), .c (.int .i64 1), .c (.int .i64 1), .c (.int .i64 5)], [], [], .call 0 false, none⟩,
 ⟨(some 1), [], [], [], [1], .alloc [.val (.int .i64 0), .val (.int .i64 0), .val (.int .i64 0), .val (.int .i64 0), .val (.bool false), .own 7 []], none⟩,
 ⟨(some 2), [], [], [], [2], .alloc [.val (.int .i64 0), .val (.int .i64 0), .val (.int .i64 0), .val (.int .i64 0), .val (.bool false), .own 7 []], none⟩,
 ⟨none, [3], [.t 1, .t 3], [], [1], .store true 6, none⟩,
 ⟨none, [4], [.t 2, .t 4], [], [2], .store true 6, none⟩] [3, 4] [])
 (.seq
 (.reg [⟨(some 5), [], [.t 1], [1], [], .load true 6, none⟩,
 ⟨(some 6), [], [.c (.fn (F n_txn_Check)), .t 5], [], [], .call 0 false, none⟩,
 ⟨(some 7), [], [.t 6, .c (.int .i64 0)], [], [], .bini .eql, none⟩,
 ⟨(some 8), [], [.t 7], [], [], .cp, none⟩,
 ⟨(some 9), [], [.t 1], [1], [], .load true 6, some (8, true)⟩,
 ⟨(some 10), [], [.t 2], [2], [], .load true 6, some (8, true)⟩,
 ⟨(some 11), [], [.c (.fn (F n_txn_Compare)), .t 9, .t 10], [], [], .call 0 false, some (8, true)⟩,
 ⟨(some 12), [], [.t 11, .c (.int .i64 (-1))], [], [], .bini .eql, some (8, true)⟩,
 ⟨(some 13), [], [.t 8, .t 12, .c (.bool false)], [], [], .pick, none⟩,
 ⟨(some 14), [], [.t 13], [], [], .cp, none⟩,
 ⟨(some 15), [], [.t 1], [1], [], .load true 6, some (14, true)⟩,
 ⟨(some 16), [], [.t 2], [2], [], .load true 6, some (14, true)⟩,
 ⟨(some 17), [], [.t 15, .t 16], [], [], .bslice 6 [.int .i64 0, .int .i64 0, .int .i64 0, .int .i64 0, .bool false, .sl 7 [], .int .i64 0, .int .i64 0, .int .i64 0, .int .i64 0, .bool false, .sl 7 []] [(0, 6), (6, 6)], some (14, true)⟩,
 ⟨(some 18), [], [.t 2], [], [], .faddr 0, some (14, true)⟩,
 ⟨(some 19), [], [.t 18], [2], [], .load true 2, some (14, true)⟩,
 ⟨(some 20), [], [.c (.fn (F n_txn_Find)), .t 17, .t 19], [], [], .call 0 false, some (14, true)⟩,
 ⟨(some 21), [], [.t 20, .c (.int .i64 1)], [], [], .bini .eql, some (14, true)⟩,
 ⟨(some 22), [], [.t 14, .t 21, .c (.bool false)], [], [], .pick, none⟩,
 ⟨(some 23), [], [.t 22], [], [], .cp, none⟩,
 ⟨(some 24), [], [.t 1], [1], [], .load true 6, some (23, true)⟩,
 ⟨(some 25), [], [.t 1], [1], [], .load true 6, some (23, true)⟩,
 ⟨(some 26), [], [.c (.fn (F n_txn_Same)), .t 24, .t 25], [], [], .call 0 false, some (23, true)⟩,
 ⟨(some 27), [], [.t 23, .t 26, .c (.bool false)], [], [], .pick, none⟩,
 ⟨(some 28), [], [.t 27], [], [], .cp, none⟩,
 ⟨(some 29), [], [.t 1], [1], [], .load true 6, some (28, true)⟩,
 ⟨(some 30), [], [.t 2], [2], [], .load true 6, some (28, true)⟩,
 ⟨(some 31), [], [.c (.fn (F n_txn_Same)), .t 29, .t 30], [], [], .call 0 false, some (28, true)⟩,
 ⟨(some 32), [], [.t 31], [], [], .not, some (28, true)⟩,
 ⟨(some 33), [], [.t 28, .t 32, .c (.bool false)], [], [], .pick, none⟩,
 ⟨(some 0), [33], [.t 33], [], [], .mv, none⟩] [5, 6, 7, 8, 9, 10, 11, 12, 13, 14, 15, 16, 17, 18, 19, 20, 21, 22, 23, 24, 25, 26, 27, 28, 29, 30, 31, 32, 33] [])
 .ret))) }

def H_pref12_Check : Hints := [(1, { ops := [(1, { mr := [1] }), (6, { mr := [1] }), (11, { mr := [1] }), (16, { mr := [1] }), (21, { mr := [1] })], kt := [5, 6, 7, 8, 9, 10, 11, 12, 13, 14, 15, 16, 17, 18, 19, 20, 21, 22, 23, 24, 25, 26, 27], kb := [] }),
 (3, { ops := [(1, { mr := [1] })], kt := [29, 30, 31], kb := [] }),
 (5, { ops := [(1, { mr := [1] })], kt := [33, 34, 35], kb := [] }),
 (8, { ops := [(2, { mr := [1] })], kt := [37, 38, 39, 40], kb := [] }),
 (9, { ops := [], kt := [4, 37, 38, 39, 40, 41, 42, 43, 44, 45, 46, 47, 48, 49, 50, 51, 52, 53, 54, 55, 56, 57, 58, 59, 60, 61, 62, 63, 64, 65], kb := [] }),
 (10, { ops := [(1, { mr := [1] })], kt := [44, 45, 46, 47, 48, 49], kb := [] }),
 (11, { ops := [(4, { mr := [1] }), (7, { mr := [1] })], kt := [50, 51, 52, 53, 54, 55, 56, 57, 58, 59, 60, 61, 62, 63], kb := [] }),
 (12, { ops := [], kt := [65], kb := [] })]
def c_pref12_Check (F : Nat → FuncId) : AFun := { nparams := 1, ntmps := 66, results := [.tmp 2], body :=
 (.seq
 (.reg [⟨(some 1), [], [.t 0], [], [1], .box, none⟩,
 ⟨(some 2), [], [.c (.int .i64 0)], [], [], .cp, none⟩] [] [])
 (.seq
 (.seq
 (.reg [⟨(some 5), [], [.t 1], [], [], .faddr 0, none⟩,
 ⟨(some 6), [], [.t 5], [1], [], .load true 2, none⟩,
 ⟨(some 7), [], [.c (.fn (F n_pref04_Right)), .t 6], [], [], .call 0 false, none⟩,
 ⟨(some 8), [], [.t 7], [], [], .not, none⟩,
 ⟨(some 9), [], [.t 8], [], [], .cp, none⟩,
 ⟨(some 10), [], [.t 1], [], [], .faddr 2, some (9, false)⟩,
 ⟨(some 11), [], [.t 10], [1], [], .load false 1, some (9, false)⟩,
 ⟨(some 12), [], [.t 11, .c (.int .i64 0)], [], [], .bini .lss, some (9, false)⟩,
 ⟨(some 13), [], [.t 9, .c (.bool true), .t 12], [], [], .pick, none⟩,
 ⟨(some 14), [], [.t 13], [], [], .cp, none⟩,
 ⟨(some 15), [], [.t 1], [], [], .faddr 2, some (14, false)⟩,
 ⟨(some 16), [], [.t 15], [1], [], .load false 1, some (14, false)⟩,
 ⟨(some 17), [], [.t 16, .c (.int .i64 7)], [], [], .bini .gtr, some (14, false)⟩,
 ⟨(some 18), [], [.t 14, .c (.bool true), .t 17], [], [], .pick, none⟩,
 ⟨(some 19), [], [.t 18], [], [], .cp, none⟩,
 ⟨(some 20), [], [.t 1], [], [], .faddr 3, some (19, false)⟩,
 ⟨(some 21), [], [.t 20], [1], [], .load false 1, some (19, false)⟩,
 ⟨(some 22), [], [.t 21, .c (.int .i64 1)], [], [], .bini .lss, some (19, false)⟩,
 ⟨(some 23), [], [.t 19, .c (.bool true), .t 22], [], [], .pick, none⟩,
 ⟨(some 24), [], [.t 23], [], [], .cp, none⟩,
 ⟨(some 25), [], [.t 1], [], [], .faddr 3, some (24, false)⟩,
 ⟨(some 26), [], [.t 25], [1], [], .load false 1, some (24, false)⟩,
 ⟨(some 27), [], [.t 26, .c (.int .i64 1099511627776)], [], [], .bini .gtr, some (24, false)⟩,
 ⟨(some 28), [], [.t 24, .c (.bool true), .t 27], [], [], .pick, none⟩] [5, 6, 7, 8, 9, 10, 11, 12, 13, 14, 15, 16, 17, 18, 19, 20, 21, 22, 23, 24, 25, 26, 27] [])
 (.cond (.t 28)
 (.seq
 (.reg [⟨(some 2), [], [.c (.int .i64 2)], [], [], .cp, none⟩] [] [])
 .ret)
 .skip))
 (.seq
 (.seq
 (.reg [⟨(some 29), [], [.t 1], [], [], .faddr 5, none⟩,
 ⟨(some 30), [], [.t 29], [1], [], .load false 1, none⟩,
 ⟨(some 31), [], [.t 30], [], [], .len false, none⟩,
 ⟨(some 32), [], [.t 31, .c (.int .i64 0)], [], [], .bini .eql, none⟩] [29, 30, 31] [])
 (.cond (.t 32)
 (.seq
 (.reg [⟨(some 2), [], [.c (.int .i64 11)], [], [], .cp, none⟩] [] [])
 .ret)
 .skip))
 (.seq
 (.seq
 (.reg [⟨(some 33), [], [.t 1], [], [], .faddr 5, none⟩,
 ⟨(some 34), [], [.t 33], [1], [], .load false 1, none⟩,
 ⟨(some 35), [], [.t 34], [], [], .len false, none⟩,
 ⟨(some 36), [], [.t 35, .c (.int .i64 16)], [], [], .bini .gtr, none⟩] [33, 34, 35] [])
 (.cond (.t 36)
 (.seq
 (.reg [⟨(some 2), [], [.c (.int .i64 7)], [], [], .cp, none⟩] [] [])
 .ret)
 .skip))
 (.seq
 (.seq
 (.reg [⟨(some 3), [], [.c (.int .i64 0)], [], [], .cp, none⟩] [] [])
 (.block 0
 (.loop
 (.seq
 (.seq
 (.reg [⟨(some 37), [], [.t 3], [], [], .cp, none⟩,
 ⟨(some 38), [], [.t 1], [], [], .faddr 5, none⟩,
 ⟨(some 39), [], [.t 38], [1], [], .load false 1, none⟩,
 ⟨(some 40), [], [.t 39], [], [], .len false, none⟩,
 ⟨(some 41), [], [.t 37, .t 40], [], [], .bini .lss, none⟩] [37, 38, 39, 40] [])
 (.cond (.t 41)
 .skip
 (.exit 0)))
 (.seq
 (.block 1
 (.seq
 (.reg [⟨(some 44), [], [.t 1], [], [], .faddr 5, none⟩,
 ⟨(some 45), [], [.t 44], [1], [], .load false 1, none⟩,
 ⟨(some 46), [], [.t 3], [], [], .cp, none⟩,
 ⟨(some 47), [], [.t 45, .t 46], [], [], .iaddr none 7, none⟩,
 ⟨(some 48), [], [.t 47], [], [], .load true 7, none⟩,
 ⟨(some 49), [], [.c (.fn (F n_pref11_Check)), .t 48], [], [], .call 0 false, none⟩,
 ⟨(some 4), [49], [.t 49], [], [], .mv, none⟩] [44, 45, 46, 47, 48, 49] [])
 (.seq
 (.reg [⟨(some 50), [], [.t 4], [], [], .cp, none⟩,
 ⟨(some 51), [], [.t 50, .c (.int .i64 0)], [], [], .bini .neq, none⟩,
 ⟨(some 52), [], [.t 51], [], [], .cp, none⟩,
 ⟨(some 53), [], [.t 1], [], [], .faddr 4, some (52, true)⟩,
 ⟨(some 54), [], [.t 53], [1], [], .load false 1, some (52, true)⟩,
 ⟨(some 55), [], [.t 54], [], [], .cp, some (52, true)⟩,
 ⟨(some 56), [], [.t 1], [], [], .faddr 5, some (55, true)⟩,
 ⟨(some 57), [], [.t 56], [1], [], .load false 1, some (55, true)⟩,
 ⟨(some 58), [], [.t 3], [], [], .cp, some (55, true)⟩,
 ⟨(some 59), [], [.t 57, .t 58], [], [], .iaddr none 7, some (55, true)⟩,
 ⟨(some 60), [], [.t 59], [], [], .load true 7, some (55, true)⟩,
 ⟨(some 61), [], [.c (.fn (F n_pref11_Gone)), .t 60], [], [], .call 0 false, some (55, true)⟩,
 ⟨(some 62), [], [.t 55, .t 61, .c (.bool false)], [], [], .pick, some (52, true)⟩,
 ⟨(some 63), [], [.t 62], [], [], .not, some (52, true)⟩,
 ⟨(some 64), [], [.t 52, .t 63, .c (.bool false)], [], [], .pick, none⟩] [50, 51, 52, 53, 54, 55, 56, 57, 58, 59, 60, 61, 62, 63] [])
 (.cond (.t 64)
 (.seq
 (.reg [⟨(some 65), [], [.t 4], [], [], .cp, none⟩,
 ⟨(some 2), [65], [.t 65], [], [], .mv, none⟩] [65] [])
 .ret)
 .skip))))
 (.reg [⟨(some 42), [], [.t 3], [], [], .cp, none⟩,
 ⟨(some 43), [], [.t 42, .c (.int .i64 1)], [], [], .bini .add, none⟩,
 ⟨(some 3), [43], [.t 43], [], [], .mv, none⟩] [4, 37, 38, 39, 40, 41, 42, 43, 44, 45, 46, 47, 48, 49, 50, 51, 52, 53, 54, 55, 56, 57, 58, 59, 60, 61, 62, 63, 64, 65] []))))))
 (.seq
 (.reg [⟨(some 2), [], [.c (.int .i64 0)], [], [], .cp, none⟩] [] [])
 .ret)))))) }

def H_txn_Check : Hints := [(1, { ops := [(1, { mr := [1] })], kt := [7, 8, 9, 10], kb := [] }),
 (2, { ops := [(1, { mr := [1] }), (5, { mr := [1] })], kt := [11, 12, 13, 14, 15, 16, 17, 18], kb := [] }),
 (3, { ops := [(1, { mr := [1] }), (5, { mr := [1] })], kt := [19, 20, 21, 22, 23, 24, 25, 26], kb := [] }),
 (5, { ops := [(1, { mr := [1] })], kt := [28, 29, 30, 31], kb := [] }),
 (7, { ops := [(1, { mr := [1] })], kt := [33, 34, 35, 36], kb := [] }),
 (9, { ops := [(1, { mr := [1] })], kt := [37], kb := [] }),
 (11, { ops := [(3, { mw := [4] })], kt := [42, 43], kb := [] }),
 (12, { ops := [(1, { mr := [1] }), (3, { mr := [4] })], kt := [44, 45, 46, 47, 48], kb := [] }),
 (13, { ops := [(0, { mr := [4] })], kt := [50, 51], kb := [] }),
 (14, { ops := [], kt := [52], kb := [] }),
 (15, { ops := [], kt := [54], kb := [] }),
 (16, { ops := [], kt := [4, 5, 41, 42, 43, 44, 45, 46, 47, 48, 49, 50, 51, 52, 53, 54, 55], kb := [4] })]
def c_txn_Check (F : Nat → FuncId) : AFun := { nparams := 1, ntmps := 56, results := [.tmp 2], body :=
 (.seq
 (.reg [⟨(some 1), [], [.t 0], [], [1], .box, none⟩,
 ⟨(some 2), [], [.c (.int .i64 0)], [], [], .cp, none⟩] [] [])
 (.seq
 (.block 0
 (.seq
 (.seq
 (.reg [⟨(some 7), [], [.t 1], [], [], .faddr 0, none⟩,
 ⟨(some 8), [], [.t 7], [1], [], .load true 2, none⟩,
 ⟨(some 9), [], [.c (.fn (F n_dot_Right)), .t 8], [], [], .call 0 false, none⟩,
 ⟨(some 10), [], [.t 9], [], [], .not, none⟩,
 ⟨(some 6), [10], [.t 10], [], [], .mv, none⟩] [7, 8, 9, 10] [])
 (.cond (.t 6)
 .skip
 (.seq
 (.reg [⟨(some 11), [], [.t 1], [], [], .faddr 2, none⟩,
 ⟨(some 12), [], [.t 11], [1], [], .load false 1, none⟩,
 ⟨(some 13), [], [.t 12, .c (.int .i64 0)], [], [], .bini .lss, none⟩,
 ⟨(some 14), [], [.t 13], [], [], .cp, none⟩,
 ⟨(some 15), [], [.t 1], [], [], .faddr 2, some (14, false)⟩,
 ⟨(some 16), [], [.t 15], [1], [], .load false 1, some (14, false)⟩,
 ⟨(some 17), [], [.t 16, .c (.int .i64 8)], [], [], .bini .geq, some (14, false)⟩,
 ⟨(some 18), [], [.t 14, .c (.bool true), .t 17], [], [], .pick, none⟩,
 ⟨(some 6), [18], [.t 18], [], [], .mv, none⟩] [11, 12, 13, 14, 15, 16, 17, 18] [])
 (.cond (.t 6)
 .skip
 (.reg [⟨(some 19), [], [.t 1], [], [], .faddr 3, none⟩,
 ⟨(some 20), [], [.t 19], [1], [], .load false 1, none⟩,
 ⟨(some 21), [], [.t 20, .c (.int .i64 1)], [], [], .bini .lss, none⟩,
 ⟨(some 22), [], [.t 21], [], [], .cp, none⟩,
 ⟨(some 23), [], [.t 1], [], [], .faddr 3, some (22, false)⟩,
 ⟨(some 24), [], [.t 23], [1], [], .load false 1, some (22, false)⟩,
 ⟨(some 25), [], [.t 24, .c (.int .i64 1099511627776)], [], [], .bini .gtr, some (22, false)⟩,
 ⟨(some 26), [], [.t 22, .c (.bool true), .t 25], [], [], .pick, none⟩,
 ⟨(some 6), [26], [.t 26], [], [], .mv, none⟩] [19, 20, 21, 22, 23, 24, 25, 26] [])))))
 (.cond (.t 6)
 (.seq
 (.reg [⟨(some 2), [], [.c (.int .i64 2)], [], [], .cp, none⟩] [] [])
 .ret)
 (.seq
 (.reg [⟨(some 28), [], [.t 1], [], [], .faddr 5, none⟩,
 ⟨(some 29), [], [.t 28], [1], [], .load false 1, none⟩,
 ⟨(some 30), [], [.t 29], [], [], .len false, none⟩,
 ⟨(some 31), [], [.t 30, .c (.int .i64 0)], [], [], .bini .eql, none⟩,
 ⟨(some 27), [31], [.t 31], [], [], .mv, none⟩] [28, 29, 30, 31] [])
 (.cond (.t 27)
 (.seq
 (.reg [⟨(some 2), [], [.c (.int .i64 11)], [], [], .cp, none⟩] [] [])
 .ret)
 (.seq
 (.reg [⟨(some 33), [], [.t 1], [], [], .faddr 5, none⟩,
 ⟨(some 34), [], [.t 33], [1], [], .load false 1, none⟩,
 ⟨(some 35), [], [.t 34], [], [], .len false, none⟩,
 ⟨(some 36), [], [.t 35, .c (.int .i64 16)], [], [], .bini .gtr, none⟩,
 ⟨(some 32), [36], [.t 36], [], [], .mv, none⟩] [33, 34, 35, 36] [])
 (.cond (.t 32)
 (.seq
 (.reg [⟨(some 2), [], [.c (.int .i64 7)], [], [], .cp, none⟩] [] [])
 .ret)
 .skip)))))))
 (.seq
 (.seq
 (.reg [⟨(some 37), [], [.t 1], [], [], .faddr 5, none⟩,
 ⟨(some 38), [], [.t 37], [1], [], .load false 1, none⟩,
 ⟨(some 39), [], [.t 38], [], [], .len false, none⟩,
 ⟨(some 40), [], [.c (.int .i64 0)], [], [], .cp, none⟩] [37] [])
 (.block 1
 (.loop
 (.seq
 (.reg [⟨(some 41), [], [.t 40, .t 39], [], [], .bini .lss, none⟩] [] [])
 (.seq
 (.cond (.t 41)
 .skip
 (.exit 1))
 (.seq
 (.block 2
 (.seq
 (.reg [⟨(some 42), [], [.t 38, .t 40], [], [], .iaddr none 7, none⟩,
 ⟨(some 43), [], [.t 42], [], [], .load true 7, none⟩,
 ⟨(some 4), [], [], [], [4], .alloc [.val (.int .i64 0), .own 1 [], .val (.int .i64 0), .val (.int .i64 0), .val (.str []), .val (.int .i64 0), .own 3 []], none⟩,
 ⟨none, [43], [.t 4, .t 43], [], [4], .store true 7, none⟩] [42, 43] [])
 (.seq
 (.seq
 (.reg [⟨(some 44), [], [.t 1], [], [], .faddr 4, none⟩,
 ⟨(some 45), [], [.t 44], [1], [], .load false 1, none⟩,
 ⟨(some 46), [], [.t 45], [], [], .cp, none⟩,
 ⟨(some 47), [], [.t 4], [4], [], .load true 7, some (46, true)⟩,
 ⟨(some 48), [], [.c (.fn (F n_op_Gone)), .t 47], [], [], .call 0 false, some (46, true)⟩,
 ⟨(some 49), [], [.t 46, .t 48, .c (.bool false)], [], [], .pick, none⟩] [44, 45, 46, 47, 48] [])
 (.cond (.t 49)
 (.exit 2)
 .skip))
 (.seq
 (.reg [⟨(some 50), [], [.t 4], [4], [], .load true 7, none⟩,
 ⟨(some 51), [], [.c (.fn (F n_op_Check)), .t 50], [], [], .call 0 false, none⟩,
 ⟨(some 5), [51], [.t 51], [], [], .mv, none⟩] [50, 51] [])
 (.seq
 (.reg [⟨(some 52), [], [.t 5], [], [], .cp, none⟩,
 ⟨(some 53), [], [.t 52, .c (.int .i64 0)], [], [], .bini .neq, none⟩] [52] [])
 (.cond (.t 53)
 (.seq
 (.reg [⟨(some 54), [], [.t 5], [], [], .cp, none⟩,
 ⟨(some 2), [54], [.t 54], [], [], .mv, none⟩] [54] [])
 .ret)
 .skip))))))
 (.reg [⟨(some 55), [], [.t 40, .c (.int .i64 1)], [], [], .bini .add, none⟩,
 ⟨(some 40), [], [.t 55], [], [], .cp, none⟩] [4, 5, 41, 42, 43, 44, 45, 46, 47, 48, 49, 50, 51, 52, 53, 54, 55] [4])))))))
 (.seq
 (.reg [⟨(some 2), [], [.c (.int .i64 0)], [], [], .cp, none⟩] [] [])
 .ret)))) }

def H_txn_Compare : Hints := [(1, { ops := [(1, { mr := [2] }), (3, { mr := [3] }), (6, { mr := [2] }), (8, { mr := [3] })], kt := [5, 6, 7, 8, 9, 10, 11, 12, 13, 14, 15, 16], kb := [] })]
def c_txn_Compare (F : Nat → FuncId) : AFun := { nparams := 2, ntmps := 17, results := [.tmp 4], body :=
 (.seq
 (.reg [⟨(some 2), [], [.t 0], [], [2], .box, none⟩,
 ⟨(some 3), [], [.t 1], [], [3], .box, none⟩,
 ⟨(some 4), [], [.c (.int .i64 0)], [], [], .cp, none⟩] [] [])
 (.seq
 (.reg [⟨(some 5), [], [.t 2], [], [], .faddr 3, none⟩,
 ⟨(some 6), [], [.t 5], [2], [], .load false 1, none⟩,
 ⟨(some 7), [], [.t 3], [], [], .faddr 3, none⟩,
 ⟨(some 8), [], [.t 7], [3], [], .load false 1, none⟩,
 ⟨(some 9), [], [.c (.fn (F n_cmp_Compare_int)), .t 6, .t 8], [], [], .call 0 false, none⟩,
 ⟨(some 10), [], [.t 2], [], [], .faddr 0, none⟩,
 ⟨(some 11), [], [.t 10], [2], [], .load true 2, none⟩,
 ⟨(some 12), [], [.t 3], [], [], .faddr 0, none⟩,
 ⟨(some 13), [], [.t 12], [3], [], .load true 2, none⟩,
 ⟨(some 14), [], [.c (.fn (F n_dot_Compare)), .t 11, .t 13], [], [], .call 0 false, none⟩,
 ⟨(some 15), [], [.t 9, .t 14], [], [], .bslice 1 [.int .i64 0, .int .i64 0] [(0, 1), (1, 1)], none⟩,
 ⟨(some 16), [], [.c (.fn (F n_cmp_Or_int)), .t 15], [], [], .call 0 false, none⟩,
 ⟨(some 4), [16], [.t 16], [], [], .mv, none⟩] [5, 6, 7, 8, 9, 10, 11, 12, 13, 14, 15, 16] [])
 .ret)) }

def H_txn_Same : Hints := [(1, { ops := [(1, { mr := [2] }), (3, { mr := [3] }), (7, { mr := [2] }), (9, { mr := [3] }), (14, { mr := [2] }), (16, { mr := [3] }), (21, { mr := [2] }), (23, { mr := [3] }), (28, { mr := [2] }), (30, { mr := [3] })], kt := [5, 6, 7, 8, 9, 10, 11, 12, 13, 14, 15, 16, 17, 18, 19, 20, 21, 22, 23, 24, 25, 26, 27, 28, 29, 30, 31, 32, 33, 34, 35, 36, 37], kb := [] })]
def c_txn_Same (F : Nat → FuncId) : AFun := { nparams := 2, ntmps := 38, results := [.tmp 4], body :=
 (.seq
 (.reg [⟨(some 2), [], [.t 0], [], [2], .box, none⟩,
 ⟨(some 3), [], [.t 1], [], [3], .box, none⟩,
 ⟨(some 4), [], [.c (.bool false)], [], [], .cp, none⟩] [] [])
 (.seq
 (.reg [⟨(some 5), [], [.t 2], [], [], .faddr 0, none⟩,
 ⟨(some 6), [], [.t 5], [2], [], .load true 2, none⟩,
 ⟨(some 7), [], [.t 3], [], [], .faddr 0, none⟩,
 ⟨(some 8), [], [.t 7], [3], [], .load true 2, none⟩,
 ⟨(some 9), [], [.t 6, .t 8], [], [], .eqa [.i, .i] false, none⟩,
 ⟨(some 10), [], [.t 9], [], [], .cp, none⟩,
 ⟨(some 11), [], [.t 2], [], [], .faddr 2, some (10, true)⟩,
 ⟨(some 12), [], [.t 11], [2], [], .load false 1, some (10, true)⟩,
 ⟨(some 13), [], [.t 3], [], [], .faddr 2, some (10, true)⟩,
 ⟨(some 14), [], [.t 13], [3], [], .load false 1, some (10, true)⟩,
 ⟨(some 15), [], [.t 12, .t 14], [], [], .bini .eql, some (10, true)⟩,
 ⟨(some 16), [], [.t 10, .t 15, .c (.bool false)], [], [], .pick, none⟩,
 ⟨(some 17), [], [.t 16], [], [], .cp, none⟩,
 ⟨(some 18), [], [.t 2], [], [], .faddr 3, some (17, true)⟩,
 ⟨(some 19), [], [.t 18], [2], [], .load false 1, some (17, true)⟩,
 ⟨(some 20), [], [.t 3], [], [], .faddr 3, some (17, true)⟩,
 ⟨(some 21), [], [.t 20], [3], [], .load false 1, some (17, true)⟩,
 ⟨(some 22), [], [.t 19, .t 21], [], [], .bini .eql, some (17, true)⟩,
 ⟨(some 23), [], [.t 17, .t 22, .c (.bool false)], [], [], .pick, none⟩,
 ⟨(some 24), [], [.t 23], [], [], .cp, none⟩,
 ⟨(some 25), [], [.t 2], [], [], .faddr 4, some (24, true)⟩,
 ⟨(some 26), [], [.t 25], [2], [], .load false 1, some (24, true)⟩,
 ⟨(some 27), [], [.t 3], [], [], .faddr 4, some (24, true)⟩,
 ⟨(some 28), [], [.t 27], [3], [], .load false 1, some (24, true)⟩,
 ⟨(some 29), [], [.t 26, .t 28], [], [], .binb false, some (24, true)⟩,
 ⟨(some 30), [], [.t 24, .t 29, .c (.bool false)], [], [], .pick, none⟩,
 ⟨(some 31), [], [.t 30], [], [], .cp, none⟩,
 ⟨(some 32), [], [.t 2], [], [], .faddr 5, some (31, true)⟩,
 ⟨(some 33), [], [.t 32], [2], [], .load false 1, some (31, true)⟩,
 ⟨(some 34), [], [.t 3], [], [], .faddr 5, some (31, true)⟩,
 ⟨(some 35), [], [.t 34], [3], [], .load false 1, some (31, true)⟩,
 ⟨(some 36), [], [.c (.fn (F n_slices_EqualFunc_api_Op_api_Op_api_Op_api_Op)), .t 33, .t 35, .c (.fn (F n_op_Same))], [], [], .call 0 false, some (31, true)⟩,
 ⟨(some 37), [], [.t 31, .t 36, .c (.bool false)], [], [], .pick, none⟩,
 ⟨(some 4), [37], [.t 37], [], [], .mv, none⟩] [5, 6, 7, 8, 9, 10, 11, 12, 13, 14, 15, 16, 17, 18, 19, 20, 21, 22, 23, 24, 25, 26, 27, 28, 29, 30, 31, 32, 33, 34, 35, 36, 37] [])
 .ret)) }

def H_pref12_Same : Hints := [(1, { ops := [(1, { mr := [2] }), (3, { mr := [3] }), (7, { mr := [2] }), (9, { mr := [3] }), (14, { mr := [2] }), (16, { mr := [3] }), (21, { mr := [2] }), (23, { mr := [3] }), (28, { mr := [2] }), (31, { mr := [3] })], kt := [6, 7, 8, 9, 10, 11, 12, 13, 14, 15, 16, 17, 18, 19, 20, 21, 22, 23, 24, 25, 26, 27, 28, 29, 30, 31, 32, 33, 34, 35, 36, 37, 38, 39], kb := [] }),
 (4, { ops := [(2, { mr := [2] })], kt := [41, 42, 43, 44], kb := [] }),
 (5, { ops := [], kt := [41, 42, 43, 44, 45, 46, 47, 48, 49, 50, 51, 52, 53, 54, 55, 56, 57, 58, 59], kb := [] }),
 (6, { ops := [(1, { mr := [2] }), (6, { mr := [3] })], kt := [48, 49, 50, 51, 52, 53, 54, 55, 56, 57, 58], kb := [] })]
def c_pref12_Same (F : Nat → FuncId) : AFun := { nparams := 2, ntmps := 60, results := [.tmp 4], body :=
 (.seq
 (.reg [⟨(some 2), [], [.t 0], [], [2], .box, none⟩,
 ⟨(some 3), [], [.t 1], [], [3], .box, none⟩,
 ⟨(some 4), [], [.c (.bool false)], [], [], .cp, none⟩] [] [])
 (.seq
 (.seq
 (.reg [⟨(some 6), [], [.t 2], [], [], .faddr 0, none⟩,
 ⟨(some 7), [], [.t 6], [2], [], .load true 2, none⟩,
 ⟨(some 8), [], [.t 3], [], [], .faddr 0, none⟩,
 ⟨(some 9), [], [.t 8], [3], [], .load true 2, none⟩,
 ⟨(some 10), [], [.t 7, .t 9], [], [], .eqa [.i, .i] true, none⟩,
 ⟨(some 11), [], [.t 10], [], [], .cp, none⟩,
 ⟨(some 12), [], [.t 2], [], [], .faddr 2, some (11, false)⟩,
 ⟨(some 13), [], [.t 12], [2], [], .load false 1, some (11, false)⟩,
 ⟨(some 14), [], [.t 3], [], [], .faddr 2, some (11, false)⟩,
 ⟨(some 15), [], [.t 14], [3], [], .load false 1, some (11, false)⟩,
 ⟨(some 16), [], [.t 13, .t 15], [], [], .bini .neq, some (11, false)⟩,
 ⟨(some 17), [], [.t 11, .c (.bool true), .t 16], [], [], .pick, none⟩,
 ⟨(some 18), [], [.t 17], [], [], .cp, none⟩,
 ⟨(some 19), [], [.t 2], [], [], .faddr 3, some (18, false)⟩,
 ⟨(some 20), [], [.t 19], [2], [], .load false 1, some (18, false)⟩,
 ⟨(some 21), [], [.t 3], [], [], .faddr 3, some (18, false)⟩,
 ⟨(some 22), [], [.t 21], [3], [], .load false 1, some (18, false)⟩,
 ⟨(some 23), [], [.t 20, .t 22], [], [], .bini .neq, some (18, false)⟩,
 ⟨(some 24), [], [.t 18, .c (.bool true), .t 23], [], [], .pick, none⟩,
 ⟨(some 25), [], [.t 24], [], [], .cp, none⟩,
 ⟨(some 26), [], [.t 2], [], [], .faddr 4, some (25, false)⟩,
 ⟨(some 27), [], [.t 26], [2], [], .load false 1, some (25, false)⟩,
 ⟨(some 28), [], [.t 3], [], [], .faddr 4, some (25, false)⟩,
 ⟨(some 29), [], [.t 28], [3], [], .load false 1, some (25, false)⟩,
 ⟨(some 30), [], [.t 27, .t 29], [], [], .binb true, some (25, false)⟩,
 ⟨(some 31), [], [.t 25, .c (.bool true), .t 30], [], [], .pick, none⟩,
 ⟨(some 32), [], [.t 31], [], [], .cp, none⟩,
 ⟨(some 33), [], [.t 2], [], [], .faddr 5, some (32, false)⟩,
 ⟨(some 34), [], [.t 33], [2], [], .load false 1, some (32, false)⟩,
 ⟨(some 35), [], [.t 34], [], [], .len false, some (32, false)⟩,
 ⟨(some 36), [], [.t 3], [], [], .faddr 5, some (32, false)⟩,
 ⟨(some 37), [], [.t 36], [3], [], .load false 1, some (32, false)⟩,
 ⟨(some 38), [], [.t 37], [], [], .len false, some (32, false)⟩,
 ⟨(some 39), [], [.t 35, .t 38], [], [], .bini .neq, some (32, false)⟩,
 ⟨(some 40), [], [.t 32, .c (.bool true), .t 39], [], [], .pick, none⟩] [6, 7, 8, 9, 10, 11, 12, 13, 14, 15, 16, 17, 18, 19, 20, 21, 22, 23, 24, 25, 26, 27, 28, 29, 30, 31, 32, 33, 34, 35, 36, 37, 38, 39] [])
 (.cond (.t 40)
 (.seq
 (.reg [⟨(some 4), [], [.c (.bool false)], [], [], .cp, none⟩] [] [])
 .ret)
 .skip))
 (.seq
 (.seq
 (.reg [⟨(some 5), [], [.c (.int .i64 0)], [], [], .cp, none⟩] [] [])
 (.block 0
 (.loop
 (.seq
 (.seq
 (.reg [⟨(some 41), [], [.t 5], [], [], .cp, none⟩,
 ⟨(some 42), [], [.t 2], [], [], .faddr 5, none⟩,
 ⟨(some 43), [], [.t 42], [2], [], .load false 1, none⟩,
 ⟨(some 44), [], [.t 43], [], [], .len false, none⟩,
 ⟨(some 45), [], [.t 41, .t 44], [], [], .bini .lss, none⟩] [41, 42, 43, 44] [])
 (.cond (.t 45)
 .skip
 (.exit 0)))
 (.seq
 (.block 1
 (.seq
 (.reg [⟨(some 48), [], [.t 2], [], [], .faddr 5, none⟩,
 ⟨(some 49), [], [.t 48], [2], [], .load false 1, none⟩,
 ⟨(some 50), [], [.t 5], [], [], .cp, none⟩,
 ⟨(some 51), [], [.t 49, .t 50], [], [], .iaddr none 7, none⟩,
 ⟨(some 52), [], [.t 51], [], [], .load true 7, none⟩,
 ⟨(some 53), [], [.t 3], [], [], .faddr 5, none⟩,
 ⟨(some 54), [], [.t 53], [3], [], .load false 1, none⟩,
 ⟨(some 55), [], [.t 5], [], [], .cp, none⟩,
 ⟨(some 56), [], [.t 54, .t 55], [], [], .iaddr none 7, none⟩,
 ⟨(some 57), [], [.t 56], [], [], .load true 7, none⟩,
 ⟨(some 58), [], [.c (.fn (F n_pref11_Same)), .t 52, .t 57], [], [], .call 0 false, none⟩,
 ⟨(some 59), [], [.t 58], [], [], .not, none⟩] [48, 49, 50, 51, 52, 53, 54, 55, 56, 57, 58] [])
 (.cond (.t 59)
 (.seq
 (.reg [⟨(some 4), [], [.c (.bool false)], [], [], .cp, none⟩] [] [])
 .ret)
 .skip)))
 (.reg [⟨(some 46), [], [.t 5], [], [], .cp, none⟩,
 ⟨(some 47), [], [.t 46, .c (.int .i64 1)], [], [], .bini .add, none⟩,
 ⟨(some 5), [47], [.t 47], [], [], .mv, none⟩] [41, 42, 43, 44, 45, 46, 47, 48, 49, 50, 51, 52, 53, 54, 55, 56, 57, 58, 59] []))))))
 (.seq
 (.reg [⟨(some 4), [], [.c (.bool true)], [], [], .cp, none⟩] [] [])
 .ret)))) }

def H_txn_Code : Hints := [(2, { ops := [(1, { mr := [1] })], kt := [7], kb := [] }),
 (4, { ops := [(1, { mr := [1] }), (4, { mr := [1] }), (8, { mr := [1] }), (15, { mr := [1] })], kt := [9, 10, 11, 12, 13, 14, 15, 16, 17, 18, 19, 20, 21, 22, 23, 24, 25, 26, 27], kb := [] }),
 (5, { ops := [(1, { mr := [1] })], kt := [28], kb := [] }),
 (7, { ops := [(3, { mw := [6] })], kt := [33, 34], kb := [] }),
 (8, { ops := [(1, { mr := [6] })], kt := [35, 36, 37, 38], kb := [] }),
 (9, { ops := [], kt := [6, 32, 33, 34, 35, 36, 37, 38, 39], kb := [6] }),
 (10, { ops := [], kt := [40], kb := [] })]
def c_txn_Code (F : Nat → FuncId) : AFun := { nparams := 1, ntmps := 41, results := [.tmp 2], body :=
 (.seq
 (.reg [⟨(some 1), [], [.t 0], [], [1], .box, none⟩,
 ⟨(some 2), [], [.c (.str [])], [], [], .cp, none⟩] [] [])
 (.seq
 (.reg [⟨(some 3), [], [.c (.int .i64 0)], [], [], .cp, none⟩] [] [])
 (.seq
 (.seq
 (.reg [⟨(some 7), [], [.t 1], [], [], .faddr 4, none⟩,
 ⟨(some 8), [], [.t 7], [1], [], .load false 1, none⟩] [7] [])
 (.cond (.t 8)
 (.reg [⟨(some 3), [], [.c (.int .i64 1)], [], [], .cp, none⟩] [] [])
 .skip))
 (.seq
 (.reg [⟨(some 9), [], [.t 1], [], [], .faddr 0, none⟩,
 ⟨(some 10), [], [.t 9], [1], [], .load true 2, none⟩,
 ⟨(some 11), [], [.c (.fn (F n_dot_Code)), .t 10], [], [], .call 0 false, none⟩,
 ⟨(some 12), [], [.t 1], [], [], .faddr 2, none⟩,
 ⟨(some 13), [], [.t 12], [1], [], .load false 1, none⟩,
 ⟨(some 14), [], [.c (.fn (F n_pack_Int)), .t 13], [], [], .call 0 false, none⟩,
 ⟨(some 15), [], [.t 11, .t 14], [], [], .bins .add, none⟩,
 ⟨(some 16), [], [.t 1], [], [], .faddr 3, none⟩,
 ⟨(some 17), [], [.t 16], [1], [], .load false 1, none⟩,
 ⟨(some 18), [], [.c (.fn (F n_pack_Int)), .t 17], [], [], .call 0 false, none⟩,
 ⟨(some 19), [], [.t 15, .t 18], [], [], .bins .add, none⟩,
 ⟨(some 20), [], [.t 3], [], [], .cp, none⟩,
 ⟨(some 21), [], [.c (.fn (F n_pack_Int)), .t 20], [], [], .call 0 false, none⟩,
 ⟨(some 22), [], [.t 19, .t 21], [], [], .bins .add, none⟩,
 ⟨(some 23), [], [.t 1], [], [], .faddr 5, none⟩,
 ⟨(some 24), [], [.t 23], [1], [], .load false 1, none⟩,
 ⟨(some 25), [], [.t 24], [], [], .len false, none⟩,
 ⟨(some 26), [], [.c (.fn (F n_pack_Int)), .t 25], [], [], .call 0 false, none⟩,
 ⟨(some 27), [], [.t 22, .t 26], [], [], .bins .add, none⟩,
 ⟨(some 4), [27], [.t 27], [], [], .mv, none⟩] [9, 10, 11, 12, 13, 14, 15, 16, 17, 18, 19, 20, 21, 22, 23, 24, 25, 26, 27] [])
 (.seq
 (.seq
 (.reg [⟨(some 28), [], [.t 1], [], [], .faddr 5, none⟩,
 ⟨(some 29), [], [.t 28], [1], [], .load false 1, none⟩,
 ⟨(some 30), [], [.t 29], [], [], .len false, none⟩,
 ⟨(some 31), [], [.c (.int .i64 0)], [], [], .cp, none⟩] [28] [])
 (.block 0
 (.loop
 (.seq
 (.reg [⟨(some 32), [], [.t 31, .t 30], [], [], .bini .lss, none⟩] [] [])
 (.seq
 (.cond (.t 32)
 .skip
 (.exit 0))
 (.seq
 (.block 1
 (.seq
 (.reg [⟨(some 33), [], [.t 29, .t 31], [], [], .iaddr none 7, none⟩,
 ⟨(some 34), [], [.t 33], [], [], .load true 7, none⟩,
 ⟨(some 6), [], [], [], [6], .alloc [.val (.int .i64 0), .own 1 [], .val (.int .i64 0), .val (.int .i64 0), .val (.str []), .val (.int .i64 0), .own 3 []], none⟩,
 ⟨none, [34], [.t 6, .t 34], [], [6], .store true 7, none⟩] [33, 34] [])
 (.reg [⟨(some 35), [], [.t 4], [], [], .cp, none⟩,
 ⟨(some 36), [], [.t 6], [6], [], .load true 7, none⟩,
 ⟨(some 37), [], [.c (.fn (F n_op_Code)), .t 36], [], [], .call 0 false, none⟩,
 ⟨(some 38), [], [.t 35, .t 37], [], [], .bins .add, none⟩,
 ⟨(some 4), [38], [.t 38], [], [], .mv, none⟩] [35, 36, 37, 38] [])))
 (.reg [⟨(some 39), [], [.t 31, .c (.int .i64 1)], [], [], .bini .add, none⟩,
 ⟨(some 31), [], [.t 39], [], [], .cp, none⟩] [6, 32, 33, 34, 35, 36, 37, 38, 39] [6])))))))
 (.seq
 (.reg [⟨(some 40), [], [.t 4], [], [], .cp, none⟩,
 ⟨(some 2), [40], [.t 40], [], [], .mv, none⟩] [40] [])
 .ret)))))) }

def H_pref12_Code : Hints := [(1, { ops := [(1, { mr := [1] }), (4, { mr := [1] }), (8, { mr := [1] })], kt := [5, 6, 7, 8, 9, 10, 11, 12, 13, 14, 15], kb := [] }),
 (2, { ops := [(1, { mr := [1] })], kt := [16], kb := [] }),
 (3, { ops := [], kt := [18, 19, 20], kb := [] }),
 (4, { ops := [], kt := [21, 22, 23], kb := [] }),
 (5, { ops := [(2, { mr := [1] })], kt := [24, 25, 26, 27, 28, 29], kb := [] }),
 (7, { ops := [(2, { mr := [1] })], kt := [30, 31, 32, 33], kb := [] }),
 (8, { ops := [], kt := [30, 31, 32, 33, 34, 35, 36, 37, 38, 39, 40, 41, 42, 43, 44], kb := [] }),
 (9, { ops := [(2, { mr := [1] })], kt := [37, 38, 39, 40, 41, 42, 43, 44], kb := [] }),
 (10, { ops := [], kt := [45], kb := [] })]
def c_pref12_Code (F : Nat → FuncId) : AFun := { nparams := 1, ntmps := 46, results := [.tmp 2], body :=
 (.seq
 (.reg [⟨(some 1), [], [.t 0], [], [1], .box, none⟩,
 ⟨(some 2), [], [.c (.str [])], [], [], .cp, none⟩] [] [])
 (.seq
 (.reg [⟨(some 5), [], [.t 1], [], [], .faddr 0, none⟩,
 ⟨(some 6), [], [.t 5], [1], [], .load true 2, none⟩,
 ⟨(some 7), [], [.c (.fn (F n_pref04_Code)), .t 6], [], [], .call 0 false, none⟩,
 ⟨(some 8), [], [.t 1], [], [], .faddr 2, none⟩,
 ⟨(some 9), [], [.t 8], [1], [], .load false 1, none⟩,
 ⟨(some 10), [], [.c (.fn (F n_pref02_Int)), .t 9], [], [], .call 0 false, none⟩,
 ⟨(some 11), [], [.t 7, .t 10], [], [], .bins .add, none⟩,
 ⟨(some 12), [], [.t 1], [], [], .faddr 3, none⟩,
 ⟨(some 13), [], [.t 12], [1], [], .load false 1, none⟩,
 ⟨(some 14), [], [.c (.fn (F n_pref02_Int)), .t 13], [], [], .call 0 false, none⟩,
 ⟨(some 15), [], [.t 11, .t 14], [], [], .bins .add, none⟩,
 ⟨(some 3), [15], [.t 15], [], [], .mv, none⟩] [5, 6, 7, 8, 9, 10, 11, 12, 13, 14, 15] [])
 (.seq
 (.seq
 (.reg [⟨(some 16), [], [.t 1], [], [], .faddr 4, none⟩,
 ⟨(some 17), [], [.t 16], [1], [], .load false 1, none⟩] [16] [])
 (.cond (.t 17)
 (.reg [⟨(some 18), [], [.t 3], [], [], .cp, none⟩,
 ⟨(some 19), [], [.c (.fn (F n_pref02_Int)), .c (.int .i64 1)], [], [], .call 0 false, none⟩,
 ⟨(some 20), [], [.t 18, .t 19], [], [], .bins .add, none⟩,
 ⟨(some 3), [20], [.t 20], [], [], .mv, none⟩] [18, 19, 20] [])
 (.reg [⟨(some 21), [], [.t 3], [], [], .cp, none⟩,
 ⟨(some 22), [], [.c (.fn (F n_pref02_Int)), .c (.int .i64 0)], [], [], .call 0 false, none⟩,
 ⟨(some 23), [], [.t 21, .t 22], [], [], .bins .add, none⟩,
 ⟨(some 3), [23], [.t 23], [], [], .mv, none⟩] [21, 22, 23] [])))
 (.seq
 (.reg [⟨(some 24), [], [.t 3], [], [], .cp, none⟩,
 ⟨(some 25), [], [.t 1], [], [], .faddr 5, none⟩,
 ⟨(some 26), [], [.t 25], [1], [], .load false 1, none⟩,
 ⟨(some 27), [], [.t 26], [], [], .len false, none⟩,
 ⟨(some 28), [], [.c (.fn (F n_pref02_Int)), .t 27], [], [], .call 0 false, none⟩,
 ⟨(some 29), [], [.t 24, .t 28], [], [], .bins .add, none⟩,
 ⟨(some 3), [29], [.t 29], [], [], .mv, none⟩] [24, 25, 26, 27, 28, 29] [])
 (.seq
 (.seq
 (.reg [⟨(some 4), [], [.c (.int .i64 0)], [], [], .cp, none⟩] [] [])
 (.block 0
 (.loop
 (.seq
 (.seq
 (.reg [⟨(some 30), [], [.t 4], [], [], .cp, none⟩,
 ⟨(some 31), [], [.t 1], [], [], .faddr 5, none⟩,
 ⟨(some 32), [], [.t 31], [1], [], .load false 1, none⟩,
 ⟨(some 33), [], [.t 32], [], [], .len false, none⟩,
 ⟨(some 34), [], [.t 30, .t 33], [], [], .bini .lss, none⟩] [30, 31, 32, 33] [])
 (.cond (.t 34)
 .skip
 (.exit 0)))
 (.seq
 (.block 1
 (.reg [⟨(some 37), [], [.t 3], [], [], .cp, none⟩,
 ⟨(some 38), [], [.t 1], [], [], .faddr 5, none⟩,
 ⟨(some 39), [], [.t 38], [1], [], .load false 1, none⟩,
 ⟨(some 40), [], [.t 4], [], [], .cp, none⟩,
 ⟨(some 41), [], [.t 39, .t 40], [], [], .iaddr none 7, none⟩,
 ⟨(some 42), [], [.t 41], [], [], .load true 7, none⟩,
 ⟨(some 43), [], [.c (.fn (F n_pref11_Code)), .t 42], [], [], .call 0 false, none⟩,
 ⟨(some 44), [], [.t 37, .t 43], [], [], .bins .add, none⟩,
 ⟨(some 3), [44], [.t 44], [], [], .mv, none⟩] [37, 38, 39, 40, 41, 42, 43, 44] []))
 (.reg [⟨(some 35), [], [.t 4], [], [], .cp, none⟩,
 ⟨(some 36), [], [.t 35, .c (.int .i64 1)], [], [], .bini .add, none⟩,
 ⟨(some 4), [36], [.t 36], [], [], .mv, none⟩] [30, 31, 32, 33, 34, 35, 36, 37, 38, 39, 40, 41, 42, 43, 44] []))))))
 (.seq
 (.reg [⟨(some 45), [], [.t 3], [], [], .cp, none⟩,
 ⟨(some 2), [45], [.t 45], [], [], .mv, none⟩] [45] [])
 .ret)))))) }

def H_pref12_All : Hints := [(1, { ops := [], kt := [6, 7, 8, 9], kb := [] }),
 (4, { ops := [], kt := [11, 12, 13], kb := [] }),
 (5, { ops := [], kt := [11, 12, 13, 14, 15, 16, 17, 18, 19, 20, 21, 22, 23, 24, 25, 26], kb := [] }),
 (6, { ops := [], kt := [17, 18, 19, 20, 21, 22, 23, 24, 25], kb := [] })]
def c_pref12_All (F : Nat → FuncId) : AFun := { nparams := 2, ntmps := 27, results := [.tmp 4], body :=
 (.seq
 (.reg [⟨(some 4), [], [.c (.bool false)], [], [], .cp, none⟩] [] [])
 (.seq
 (.seq
 (.reg [⟨(some 6), [], [.t 0], [], [], .cp, none⟩,
 ⟨(some 7), [], [.t 6], [], [], .len false, none⟩,
 ⟨(some 8), [], [.t 1], [], [], .cp, none⟩,
 ⟨(some 9), [], [.t 8], [], [], .len false, none⟩,
 ⟨(some 10), [], [.t 7, .t 9], [], [], .bini .neq, none⟩] [6, 7, 8, 9] [])
 (.cond (.t 10)
 (.seq
 (.reg [⟨(some 4), [], [.c (.bool false)], [], [], .cp, none⟩] [] [])
 .ret)
 .skip))
 (.seq
 (.seq
 (.reg [⟨(some 5), [], [.c (.int .i64 0)], [], [], .cp, none⟩] [] [])
 (.block 0
 (.loop
 (.seq
 (.seq
 (.reg [⟨(some 11), [], [.t 5], [], [], .cp, none⟩,
 ⟨(some 12), [], [.t 0], [], [], .cp, none⟩,
 ⟨(some 13), [], [.t 12], [], [], .len false, none⟩,
 ⟨(some 14), [], [.t 11, .t 13], [], [], .bini .lss, none⟩] [11, 12, 13] [])
 (.cond (.t 14)
 .skip
 (.exit 0)))
 (.seq
 (.block 1
 (.seq
 (.reg [⟨(some 17), [], [.t 0], [], [], .cp, none⟩,
 ⟨(some 18), [], [.t 5], [], [], .cp, none⟩,
 ⟨(some 19), [], [.t 17, .t 18], [], [], .iaddr none 6, none⟩,
 ⟨(some 20), [], [.t 19], [], [], .load true 6, none⟩,
 ⟨(some 21), [], [.t 1], [], [], .cp, none⟩,
 ⟨(some 22), [], [.t 5], [], [], .cp, none⟩,
 ⟨(some 23), [], [.t 21, .t 22], [], [], .iaddr none 6, none⟩,
 ⟨(some 24), [], [.t 23], [], [], .load true 6, none⟩,
 ⟨(some 25), [], [.c (.fn (F n_pref12_Same)), .t 20, .t 24], [], [], .call 0 false, none⟩,
 ⟨(some 26), [], [.t 25], [], [], .not, none⟩] [17, 18, 19, 20, 21, 22, 23, 24, 25] [])
 (.cond (.t 26)
 (.seq
 (.reg [⟨(some 4), [], [.c (.bool false)], [], [], .cp, none⟩] [] [])
 .ret)
 .skip)))
 (.reg [⟨(some 15), [], [.t 5], [], [], .cp, none⟩,
 ⟨(some 16), [], [.t 15, .c (.int .i64 1)], [], [], .bini .add, none⟩,
 ⟨(some 5), [16], [.t 16], [], [], .mv, none⟩] [11, 12, 13, 14, 15, 16, 17, 18, 19, 20, 21, 22, 23, 24, 25, 26] []))))))
 (.seq
 (.reg [⟨(some 4), [], [.c (.bool true)], [], [], .cp, none⟩] [] [])
 .ret)))) }

def H_pref12_Rises : Hints := [(2, { ops := [], kt := [4, 5, 6], kb := [] }),
 (3, { ops := [], kt := [4, 5, 6, 7, 8, 9, 10, 11, 12, 13, 14, 15, 16, 17, 18, 19, 20, 21, 22], kb := [] }),
 (4, { ops := [], kt := [10, 11, 12, 13, 14, 15, 16, 17, 18, 19, 20, 21], kb := [] })]
def c_pref12_Rises (F : Nat → FuncId) : AFun := { nparams := 1, ntmps := 23, results := [.tmp 2], body :=
 (.seq
 (.reg [⟨(some 2), [], [.c (.bool false)], [], [], .cp, none⟩] [] [])
 (.seq
 (.seq
 (.reg [⟨(some 3), [], [.c (.int .i64 1)], [], [], .cp, none⟩] [] [])
 (.block 0
 (.loop
 (.seq
 (.seq
 (.reg [⟨(some 4), [], [.t 3], [], [], .cp, none⟩,
 ⟨(some 5), [], [.t 0], [], [], .cp, none⟩,
 ⟨(some 6), [], [.t 5], [], [], .len false, none⟩,
 ⟨(some 7), [], [.t 4, .t 6], [], [], .bini .lss, none⟩] [4, 5, 6] [])
 (.cond (.t 7)
 .skip
 (.exit 0)))
 (.seq
 (.block 1
 (.seq
 (.reg [⟨(some 10), [], [.t 0], [], [], .cp, none⟩,
 ⟨(some 11), [], [.t 3], [], [], .cp, none⟩,
 ⟨(some 12), [], [.t 11, .c (.int .i64 1)], [], [], .bini .sub, none⟩,
 ⟨(some 13), [], [.t 10, .t 12], [], [], .iaddr none 6, none⟩,
 ⟨(some 14), [], [.t 13], [], [], .faddr 0, none⟩,
 ⟨(some 15), [], [.t 14], [], [], .load true 2, none⟩,
 ⟨(some 16), [], [.t 0], [], [], .cp, none⟩,
 ⟨(some 17), [], [.t 3], [], [], .cp, none⟩,
 ⟨(some 18), [], [.t 16, .t 17], [], [], .iaddr none 6, none⟩,
 ⟨(some 19), [], [.t 18], [], [], .faddr 0, none⟩,
 ⟨(some 20), [], [.t 19], [], [], .load true 2, none⟩,
 ⟨(some 21), [], [.c (.fn (F n_pref04_Compare)), .t 15, .t 20], [], [], .call 0 false, none⟩,
 ⟨(some 22), [], [.t 21, .c (.int .i64 (-1))], [], [], .bini .neq, none⟩] [10, 11, 12, 13, 14, 15, 16, 17, 18, 19, 20, 21] [])
 (.cond (.t 22)
 (.seq
 (.reg [⟨(some 2), [], [.c (.bool false)], [], [], .cp, none⟩] [] [])
 .ret)
 .skip)))
 (.reg [⟨(some 8), [], [.t 3], [], [], .cp, none⟩,
 ⟨(some 9), [], [.t 8, .c (.int .i64 1)], [], [], .bini .add, none⟩,
 ⟨(some 3), [9], [.t 9], [], [], .mv, none⟩] [4, 5, 6, 7, 8, 9, 10, 11, 12, 13, 14, 15, 16, 17, 18, 19, 20, 21, 22] []))))))
 (.seq
 (.reg [⟨(some 2), [], [.c (.bool true)], [], [], .cp, none⟩] [] [])
 .ret))) }

def H_txn_Rises : Hints := [(3, { ops := [(5, { mw := [4] })], kt := [9, 10, 11], kb := [] }),
 (4, { ops := [(10, { mr := [4] })], kt := [12, 13, 14, 15, 16, 17, 18, 19, 20, 21, 22, 23, 24], kb := [] }),
 (6, { ops := [], kt := [3, 4, 8, 9, 10, 11, 12, 13, 14, 15, 16, 17, 18, 19, 20, 21, 22, 23, 24, 25, 26], kb := [4] })]
def c_txn_Rises (F : Nat → FuncId) : AFun := { nparams := 1, ntmps := 27, results := [.tmp 2], body :=
 (.seq
 (.reg [⟨(some 2), [], [.c (.bool false)], [], [], .cp, none⟩] [] [])
 (.seq
 (.seq
 (.reg [⟨(some 5), [], [.t 0], [], [], .cp, none⟩,
 ⟨(some 6), [], [.t 5], [], [], .len false, none⟩,
 ⟨(some 7), [], [.c (.int .i64 0)], [], [], .cp, none⟩] [] [])
 (.block 0
 (.loop
 (.seq
 (.reg [⟨(some 8), [], [.t 7, .t 6], [], [], .bini .lss, none⟩] [] [])
 (.seq
 (.cond (.t 8)
 .skip
 (.exit 0))
 (.seq
 (.block 1
 (.seq
 (.reg [⟨(some 9), [], [.t 7], [], [], .cp, none⟩,
 ⟨(some 10), [], [.t 5, .t 7], [], [], .iaddr none 6, none⟩,
 ⟨(some 11), [], [.t 10], [], [], .load true 6, none⟩,
 ⟨(some 4), [], [], [], [4], .alloc [.val (.int .i64 0), .val (.int .i64 0), .val (.int .i64 0), .val (.int .i64 0), .val (.bool false), .own 7 []], none⟩,
 ⟨(some 3), [9], [.t 9], [], [], .mv, none⟩,
 ⟨none, [11], [.t 4, .t 11], [], [4], .store true 6, none⟩] [9, 10, 11] [])
 (.seq
 (.reg [⟨(some 12), [], [.t 3], [], [], .cp, none⟩,
 ⟨(some 13), [], [.t 12, .c (.int .i64 0)], [], [], .bini .gtr, none⟩,
 ⟨(some 14), [], [.t 13], [], [], .cp, none⟩,
 ⟨(some 15), [], [.t 0], [], [], .cp, some (14, true)⟩,
 ⟨(some 16), [], [.t 3], [], [], .cp, some (14, true)⟩,
 ⟨(some 17), [], [.t 16, .c (.int .i64 1)], [], [], .bini .sub, some (14, true)⟩,
 ⟨(some 18), [], [.t 15, .t 17], [], [], .iaddr none 6, some (14, true)⟩,
 ⟨(some 19), [], [.t 18], [], [], .faddr 0, some (14, true)⟩,
 ⟨(some 20), [], [.t 19], [], [], .load true 2, some (14, true)⟩,
 ⟨(some 21), [], [.t 4], [], [], .faddr 0, some (14, true)⟩,
 ⟨(some 22), [], [.t 21], [4], [], .load true 2, some (14, true)⟩,
 ⟨(some 23), [], [.c (.fn (F n_dot_Compare)), .t 20, .t 22], [], [], .call 0 false, some (14, true)⟩,
 ⟨(some 24), [], [.t 23, .c (.int .i64 0)], [], [], .bini .geq, some (14, true)⟩,
 ⟨(some 25), [], [.t 14, .t 24, .c (.bool false)], [], [], .pick, none⟩] [12, 13, 14, 15, 16, 17, 18, 19, 20, 21, 22, 23, 24] [])
 (.cond (.t 25)
 (.seq
 (.reg [⟨(some 2), [], [.c (.bool false)], [], [], .cp, none⟩] [] [])
 .ret)
 .skip))))
 (.reg [⟨(some 26), [], [.t 7, .c (.int .i64 1)], [], [], .bini .add, none⟩,
 ⟨(some 7), [], [.t 26], [], [], .cp, none⟩] [3, 4, 8, 9, 10, 11, 12, 13, 14, 15, 16, 17, 18, 19, 20, 21, 22, 23, 24, 25, 26] [4])))))))
 (.seq
 (.reg [⟨(some 2), [], [.c (.bool true)], [], [], .cp, none⟩] [] [])
 .ret))) }

def H_txn_Find : Hints := [(1, { ops := [(1, { mr := [3] })], kt := [7, 8, 9, 10, 11, 12], kb := [] }),
 (2, { ops := [], kt := [13], kb := [] }),
 (4, { ops := [], kt := [15], kb := [] })]
def c_txn_Find (F : Nat → FuncId) : AFun := { nparams := 2, ntmps := 16, results := [.tmp 4], body :=
 (.seq
 (.reg [⟨(some 3), [], [.t 1], [], [3], .box, none⟩,
 ⟨(some 4), [], [.c (.int .i64 0)], [], [], .cp, none⟩] [] [])
 (.seq
 (.reg [⟨(some 8), [], [.t 0], [], [], .cp, none⟩,
 ⟨(some 9), [], [.t 3], [3], [], .load true 2, none⟩,
 ⟨(some 10), [], [.c (.fn (F n_slices_BinarySearchFunc_api_Txn_api_Txn_api_Dot)), .t 8, .t 9, .c (.fn (F n_txn_Find_1))], [], [], .call 0 false, none⟩,
 ⟨(some 7), [], [.t 10], [], [], .cp, none⟩,
 ⟨(some 11), [], [.t 7], [], [], .extract 0, none⟩,
 ⟨(some 12), [], [.t 7], [], [], .extract 1, none⟩,
 ⟨(some 5), [11], [.t 11], [], [], .mv, none⟩,
 ⟨(some 6), [12], [.t 12], [], [], .mv, none⟩] [7, 8, 9, 10, 11, 12] [])
 (.seq
 (.seq
 (.reg [⟨(some 13), [], [.t 6], [], [], .cp, none⟩,
 ⟨(some 14), [], [.t 13], [], [], .not, none⟩] [13] [])
 (.cond (.t 14)
 (.seq
 (.reg [⟨(some 4), [], [.c (.int .i64 (-1))], [], [], .cp, none⟩] [] [])
 .ret)
 .skip))
 (.seq
 (.reg [⟨(some 15), [], [.t 5], [], [], .cp, none⟩,
 ⟨(some 4), [15], [.t 15], [], [], .mv, none⟩] [15] [])
 .ret)))) }

def H_txn_Read : Hints := [(1, { ops := [(1, { mw := [0], nref := 1 }), (3, { mw := [0], nref := 1 }), (5, { mw := [0], nref := 1 }), (6, { x := 5 }), (8, { mw := [3] })], kt := [5, 6, 7, 8, 9, 10, 11], kb := [] }),
 (2, { ops := [(1, { mw := [0], nref := 1 })], kt := [12, 13], kb := [] }),
 (3, { ops := [(3, { mw := [3] })], kt := [14, 15, 16], kb := [] }),
 (4, { ops := [(1, { mw := [0], nref := 1 })], kt := [17, 18, 19, 20, 21, 22], kb := [] }),
 (5, { ops := [(1, { mw := [0], nref := 1 })], kt := [24, 25], kb := [] }),
 (6, { ops := [(1, { mw := [0], nref := 1 })], kt := [26], kb := [] }),
 (8, { ops := [(1, { take := true, mw := [3] }), (3, { mw := [0], nref := 1 }), (7, { mw := [3] })], kt := [30, 31, 32, 33, 34, 35, 36], kb := [] }),
 (9, { ops := [], kt := [29, 30, 31, 32, 33, 34, 35, 36, 37], kb := [] }),
 (10, { ops := [(1, { mw := [0], nref := 1 })], kt := [38, 39], kb := [] }),
 (11, { ops := [(1, { mr := [3] }), (3, { mw := [0], nref := 1 })], kt := [41, 42, 43, 44], kb := [] }),
 (12, { ops := [(1, { mw := [0], nref := 1 })], kt := [45, 46], kb := [] }),
 (13, { ops := [(1, { mw := [2] })], kt := [48], kb := [] }),
 (14, { ops := [(0, { mr := [3] }), (1, { mw := [2] })], kt := [49], kb := [] })]
def c_txn_Read (F : Nat → FuncId) : AFun := { nparams := 1, ntmps := 50, results := [.cell 2 true 6], body :=
 (.seq
 (.reg [⟨(some 2), [], [], [], [2], .alloc [.val (.int .i64 0), .val (.int .i64 0), .val (.int .i64 0), .val (.int .i64 0), .val (.bool false), .own 7 []], none⟩] [] [])
 (.seq
 (.reg [⟨(some 5), [], [.t 0], [], [], .cp, none⟩,
 ⟨(some 6), [], [.c (.fn (F n_dot_Read)), .t 5], [], [0], .call 1 false, none⟩,
 ⟨(some 7), [], [.t 0], [], [], .cp, none⟩,
 ⟨(some 8), [], [.c (.fn (F n_pack_Reader_Int)), .t 7], [], [0], .call 1 false, none⟩,
 ⟨(some 9), [], [.t 0], [], [], .cp, none⟩,
 ⟨(some 10), [], [.c (.fn (F n_pack_Reader_Int)), .t 9], [], [0], .call 1 false, none⟩,
 ⟨(some 11), [], [.t 6, .t 8, .t 10], [], [], .buildt [.int .i64 0, .int .i64 0, .int .i64 0, .int .i64 0, .bool false, .sl 7 []] [(0, 2), (2, 1), (3, 1)], none⟩,
 ⟨(some 3), [], [], [], [3], .alloc [.val (.int .i64 0), .val (.int .i64 0), .val (.int .i64 0), .val (.int .i64 0), .val (.bool false), .own 7 []], none⟩,
 ⟨none, [11], [.t 3, .t 11], [], [3], .store true 6, none⟩] [5, 6, 7, 8, 9, 10, 11] [])
 (.seq
 (.reg [⟨(some 12), [], [.t 0], [], [], .cp, none⟩,
 ⟨(some 13), [], [.c (.fn (F n_pack_Reader_Int)), .t 12], [], [0], .call 1 false, none⟩,
 ⟨(some 4), [13], [.t 13], [], [], .mv, none⟩] [12, 13] [])
 (.seq
 (.reg [⟨(some 14), [], [.t 4], [], [], .cp, none⟩,
 ⟨(some 15), [], [.t 14, .c (.int .i64 1)], [], [], .bini .eql, none⟩,
 ⟨(some 16), [], [.t 3], [], [], .faddr 4, none⟩,
 ⟨none, [15], [.t 16, .t 15], [], [3], .store false 1, none⟩] [14, 15, 16] [])
 (.seq
 (.seq
 (.reg [⟨(some 17), [], [.t 0], [], [], .cp, none⟩,
 ⟨(some 18), [], [.c (.fn (F n_pack_Reader_Fault)), .t 17], [], [0], .call 1 false, none⟩,
 ⟨(some 19), [], [.t 18, .c (.int .i64 0)], [], [], .bini .eql, none⟩,
 ⟨(some 20), [], [.t 19], [], [], .cp, none⟩,
 ⟨(some 21), [], [.t 4], [], [], .cp, some (20, true)⟩,
 ⟨(some 22), [], [.t 21, .c (.int .i64 1)], [], [], .bini .gtr, some (20, true)⟩,
 ⟨(some 23), [], [.t 20, .t 22, .c (.bool false)], [], [], .pick, none⟩] [17, 18, 19, 20, 21, 22] [])
 (.cond (.t 23)
 (.reg [⟨(some 24), [], [.t 0], [], [], .cp, none⟩,
 ⟨(some 25), [], [.c (.fn (F n_pack_Reader_Fail)), .t 24, .c (.int .i64 3)], [], [0], .call 1 false, none⟩] [24, 25] [])
 .skip))
 (.seq
 (.seq
 (.reg [⟨(some 26), [], [.t 0], [], [], .cp, none⟩,
 ⟨(some 27), [], [.c (.fn (F n_pack_Reader_Many)), .t 26, .c (.int .i64 16)], [], [0], .call 1 false, none⟩,
 ⟨(some 28), [], [.c (.int .i64 0)], [], [], .cp, none⟩] [26] [])
 (.block 0
 (.loop
 (.seq
 (.reg [⟨(some 29), [], [.t 28, .t 27], [], [], .bini .lss, none⟩] [] [])
 (.seq
 (.cond (.t 29)
 .skip
 (.exit 0))
 (.seq
 (.block 1
 (.reg [⟨(some 30), [], [.t 3], [], [], .faddr 5, none⟩,
 ⟨(some 31), [], [.t 30], [], [3], .ltake, none⟩,
 ⟨(some 32), [], [.t 0], [], [], .cp, none⟩,
 ⟨(some 33), [], [.c (.fn (F n_op_Read)), .t 32], [], [0], .call 1 false, none⟩,
 ⟨(some 34), [], [.t 33], [], [], .bslice 7 [.int .i64 0, .sl 1 [], .int .i64 0, .int .i64 0, .str [], .int .i64 0, .sl 3 []] [(0, 7)], none⟩,
 ⟨(some 35), [31], [.t 31, .t 34], [], [], .append 7 96, none⟩,
 ⟨(some 36), [], [.t 3], [], [], .faddr 5, none⟩,
 ⟨none, [35], [.t 36, .t 35], [], [3], .store false 1, none⟩] [30, 31, 32, 33, 34, 35, 36] []))
 (.reg [⟨(some 37), [], [.t 28, .c (.int .i64 1)], [], [], .bini .add, none⟩,
 ⟨(some 28), [], [.t 37], [], [], .cp, none⟩] [29, 30, 31, 32, 33, 34, 35, 36, 37] [])))))))
 (.seq
 (.seq
 (.reg [⟨(some 38), [], [.t 0], [], [], .cp, none⟩,
 ⟨(some 39), [], [.c (.fn (F n_pack_Reader_Fault)), .t 38], [], [0], .call 1 false, none⟩,
 ⟨(some 40), [], [.t 39, .c (.int .i64 0)], [], [], .bini .eql, none⟩] [38, 39] [])
 (.cond (.t 40)
 (.reg [⟨(some 41), [], [.t 0], [], [], .cp, none⟩,
 ⟨(some 42), [], [.t 3], [3], [], .load true 6, none⟩,
 ⟨(some 43), [], [.c (.fn (F n_txn_Check)), .t 42], [], [], .call 0 false, none⟩,
 ⟨(some 44), [], [.c (.fn (F n_pack_Reader_Fail)), .t 41, .t 43], [], [0], .call 1 false, none⟩] [41, 42, 43, 44] [])
 .skip))
 (.seq
 (.seq
 (.reg [⟨(some 45), [], [.t 0], [], [], .cp, none⟩,
 ⟨(some 46), [], [.c (.fn (F n_pack_Reader_Fault)), .t 45], [], [0], .call 1 false, none⟩,
 ⟨(some 47), [], [.t 46, .c (.int .i64 0)], [], [], .bini .neq, none⟩] [45, 46] [])
 (.cond (.t 47)
 (.seq
 (.reg [⟨(some 48), [], [], [], [], .build [.int .i64 0, .int .i64 0, .int .i64 0, .int .i64 0, .bool false, .sl 7 []] [], none⟩,
 ⟨none, [48], [.t 2, .t 48], [], [2], .store true 6, none⟩] [48] [])
 .ret)
 .skip))
 (.seq
 (.reg [⟨(some 49), [], [.t 3], [3], [], .load true 6, none⟩,
 ⟨none, [49], [.t 2, .t 49], [], [2], .store true 6, none⟩] [49] [])
 .ret))))))))) }

def H_txn_ReadList : Hints := [(0, { ops := [(0, { x := 4 })], kt := [], kb := [] }),
 (2, { ops := [(2, { mw := [0], nref := 1 })], kt := [6, 7], kb := [] }),
 (4, { ops := [(0, { take := true }), (2, { mw := [0], nref := 1 })], kt := [11, 12, 13, 14, 15], kb := [] }),
 (5, { ops := [], kt := [10, 11, 12, 13, 14, 15, 16], kb := [] }),
 (6, { ops := [(1, { mw := [0], nref := 1 })], kt := [17, 18, 19, 20, 21, 22, 23], kb := [] }),
 (7, { ops := [(1, { mw := [0], nref := 1 })], kt := [25, 26], kb := [] }),
 (8, { ops := [(1, { mw := [0], nref := 1 })], kt := [27, 28], kb := [] }),
 (9, { ops := [(0, { x := 4 })], kt := [], kb := [] }),
 (10, { ops := [], kt := [30], kb := [] })]
def c_txn_ReadList (F : Nat → FuncId) : AFun := { nparams := 2, ntmps := 31, results := [.tmp 4], body :=
 (.seq
 (.reg [⟨(some 4), [], [.c (.sl 6 [])], [], [], .cp, none⟩] [] [])
 (.seq
 (.reg [⟨(some 5), [], [], [], [], .nils 6, none⟩] [] [])
 (.seq
 (.seq
 (.reg [⟨(some 6), [], [.t 0], [], [], .cp, none⟩,
 ⟨(some 7), [], [.t 1], [], [], .cp, none⟩,
 ⟨(some 8), [], [.c (.fn (F n_pack_Reader_Many)), .t 6, .t 7], [], [0], .call 1 false, none⟩,
 ⟨(some 9), [], [.c (.int .i64 0)], [], [], .cp, none⟩] [6, 7] [])
 (.block 0
 (.loop
 (.seq
 (.reg [⟨(some 10), [], [.t 9, .t 8], [], [], .bini .lss, none⟩] [] [])
 (.seq
 (.cond (.t 10)
 .skip
 (.exit 0))
 (.seq
 (.block 1
 (.reg [⟨(some 11), [5], [.t 5], [], [], .mv, none⟩,
 ⟨(some 12), [], [.t 0], [], [], .cp, none⟩,
 ⟨(some 13), [], [.c (.fn (F n_txn_Read)), .t 12], [], [0], .call 1 false, none⟩,
 ⟨(some 14), [], [.t 13], [], [], .bslice 6 [.int .i64 0, .int .i64 0, .int .i64 0, .int .i64 0, .bool false, .sl 7 []] [(0, 6)], none⟩,
 ⟨(some 15), [11], [.t 11, .t 14], [], [], .append 6 64, none⟩,
 ⟨(some 5), [15], [.t 15], [], [], .mv, none⟩] [11, 12, 13, 14, 15] []))
 (.reg [⟨(some 16), [], [.t 9, .c (.int .i64 1)], [], [], .bini .add, none⟩,
 ⟨(some 9), [], [.t 16], [], [], .cp, none⟩] [10, 11, 12, 13, 14, 15, 16] [])))))))
 (.seq
 (.seq
 (.reg [⟨(some 17), [], [.t 0], [], [], .cp, none⟩,
 ⟨(some 18), [], [.c (.fn (F n_pack_Reader_Fault)), .t 17], [], [0], .call 1 false, none⟩,
 ⟨(some 19), [], [.t 18, .c (.int .i64 0)], [], [], .bini .eql, none⟩,
 ⟨(some 20), [], [.t 19], [], [], .cp, none⟩,
 ⟨(some 21), [], [.t 5], [], [], .cp, some (20, true)⟩,
 ⟨(some 22), [], [.c (.fn (F n_txn_Rises)), .t 21], [], [], .call 0 false, some (20, true)⟩,
 ⟨(some 23), [], [.t 22], [], [], .not, some (20, true)⟩,
 ⟨(some 24), [], [.t 20, .t 23, .c (.bool false)], [], [], .pick, none⟩] [17, 18, 19, 20, 21, 22, 23] [])
 (.cond (.t 24)
 (.reg [⟨(some 25), [], [.t 0], [], [], .cp, none⟩,
 ⟨(some 26), [], [.c (.fn (F n_pack_Reader_Fail)), .t 25, .c (.int .i64 2)], [], [0], .call 1 false, none⟩] [25, 26] [])
 .skip))
 (.seq
 (.seq
 (.reg [⟨(some 27), [], [.t 0], [], [], .cp, none⟩,
 ⟨(some 28), [], [.c (.fn (F n_pack_Reader_Fault)), .t 27], [], [0], .call 1 false, none⟩,
 ⟨(some 29), [], [.t 28, .c (.int .i64 0)], [], [], .bini .neq, none⟩] [27, 28] [])
 (.cond (.t 29)
 (.seq
 (.reg [⟨(some 4), [], [.c (.sl 6 [])], [], [], .cp, none⟩] [] [])
 .ret)
 .skip))
 (.seq
 (.reg [⟨(some 30), [], [.t 5], [], [], .cp, none⟩,
 ⟨(some 4), [30], [.t 30], [], [], .mv, none⟩] [30] [])
 .ret)))))) }

def H_pref12_Good : Hints := [(1, { ops := [], kt := [6, 7, 8, 9, 10, 11, 12, 13], kb := [] }),
 (4, { ops := [], kt := [15, 16, 17], kb := [] }),
 (5, { ops := [], kt := [15, 16, 17, 18, 19, 20, 21, 22, 23, 24, 25, 26, 27, 28, 29, 30, 31, 32, 33, 34], kb := [] }),
 (6, { ops := [], kt := [21, 22, 23, 24, 25, 26, 27, 28, 29, 30, 31, 32, 33], kb := [] })]
def c_pref12_Good (F : Nat → FuncId) : AFun := { nparams := 2, ntmps := 35, results := [.tmp 4], body :=
 (.seq
 (.reg [⟨(some 4), [], [.c (.bool false)], [], [], .cp, none⟩] [] [])
 (.seq
 (.seq
 (.reg [⟨(some 6), [], [.t 0], [], [], .cp, none⟩,
 ⟨(some 7), [], [.t 6], [], [], .len false, none⟩,
 ⟨(some 8), [], [.t 1], [], [], .cp, none⟩,
 ⟨(some 9), [], [.t 7, .t 8], [], [], .bini .gtr, none⟩,
 ⟨(some 10), [], [.t 9], [], [], .cp, none⟩,
 ⟨(some 11), [], [.t 0], [], [], .cp, some (10, false)⟩,
 ⟨(some 12), [], [.c (.fn (F n_pref12_Rises)), .t 11], [], [], .call 0 false, some (10, false)⟩,
 ⟨(some 13), [], [.t 12], [], [], .not, some (10, false)⟩,
 ⟨(some 14), [], [.t 10, .c (.bool true), .t 13], [], [], .pick, none⟩] [6, 7, 8, 9, 10, 11, 12, 13] [])
 (.cond (.t 14)
 (.seq
 (.reg [⟨(some 4), [], [.c (.bool false)], [], [], .cp, none⟩] [] [])
 .ret)
 .skip))
 (.seq
 (.seq
 (.reg [⟨(some 5), [], [.c (.int .i64 0)], [], [], .cp, none⟩] [] [])
 (.block 0
 (.loop
 (.seq
 (.seq
 (.reg [⟨(some 15), [], [.t 5], [], [], .cp, none⟩,
 ⟨(some 16), [], [.t 0], [], [], .cp, none⟩,
 ⟨(some 17), [], [.t 16], [], [], .len false, none⟩,
 ⟨(some 18), [], [.t 15, .t 17], [], [], .bini .lss, none⟩] [15, 16, 17] [])
 (.cond (.t 18)
 .skip
 (.exit 0)))
 (.seq
 (.block 1
 (.seq
 (.reg [⟨(some 21), [], [.t 0], [], [], .cp, none⟩,
 ⟨(some 22), [], [.t 5], [], [], .cp, none⟩,
 ⟨(some 23), [], [.t 21, .t 22], [], [], .iaddr none 6, none⟩,
 ⟨(some 24), [], [.t 23], [], [], .load true 6, none⟩,
 ⟨(some 25), [], [.c (.fn (F n_pref12_Short)), .t 24], [], [], .call 0 false, none⟩,
 ⟨(some 26), [], [.t 25], [], [], .not, none⟩,
 ⟨(some 27), [], [.t 26], [], [], .cp, none⟩,
 ⟨(some 28), [], [.t 0], [], [], .cp, some (27, false)⟩,
 ⟨(some 29), [], [.t 5], [], [], .cp, some (27, false)⟩,
 ⟨(some 30), [], [.t 28, .t 29], [], [], .iaddr none 6, some (27, false)⟩,
 ⟨(some 31), [], [.t 30], [], [], .load true 6, some (27, false)⟩,
 ⟨(some 32), [], [.c (.fn (F n_pref12_Check)), .t 31], [], [], .call 0 false, some (27, false)⟩,
 ⟨(some 33), [], [.t 32, .c (.int .i64 0)], [], [], .bini .neq, some (27, false)⟩,
 ⟨(some 34), [], [.t 27, .c (.bool true), .t 33], [], [], .pick, none⟩] [21, 22, 23, 24, 25, 26, 27, 28, 29, 30, 31, 32, 33] [])
 (.cond (.t 34)
 (.seq
 (.reg [⟨(some 4), [], [.c (.bool false)], [], [], .cp, none⟩] [] [])
 .ret)
 .skip)))
 (.reg [⟨(some 19), [], [.t 5], [], [], .cp, none⟩,
 ⟨(some 20), [], [.t 19, .c (.int .i64 1)], [], [], .bini .add, none⟩,
 ⟨(some 5), [20], [.t 20], [], [], .mv, none⟩] [15, 16, 17, 18, 19, 20, 21, 22, 23, 24, 25, 26, 27, 28, 29, 30, 31, 32, 33, 34] []))))))
 (.seq
 (.reg [⟨(some 4), [], [.c (.bool true)], [], [], .cp, none⟩] [] [])
 .ret)))) }

def H_txn_List : Hints := [(1, { ops := [], kt := [6, 7, 8], kb := [] }),
 (4, { ops := [(3, { mw := [5] })], kt := [13, 14], kb := [] }),
 (5, { ops := [(1, { mr := [5] })], kt := [15, 16, 17, 18], kb := [] }),
 (6, { ops := [], kt := [5, 12, 13, 14, 15, 16, 17, 18, 19], kb := [5] }),
 (7, { ops := [], kt := [20], kb := [] })]
def c_txn_List (F : Nat → FuncId) : AFun := { nparams := 1, ntmps := 21, results := [.tmp 2], body :=
 (.seq
 (.reg [⟨(some 2), [], [.c (.str [])], [], [], .cp, none⟩] [] [])
 (.seq
 (.reg [⟨(some 6), [], [.t 0], [], [], .cp, none⟩,
 ⟨(some 7), [], [.t 6], [], [], .len false, none⟩,
 ⟨(some 8), [], [.c (.fn (F n_pack_Int)), .t 7], [], [], .call 0 false, none⟩,
 ⟨(some 3), [8], [.t 8], [], [], .mv, none⟩] [6, 7, 8] [])
 (.seq
 (.seq
 (.reg [⟨(some 9), [], [.t 0], [], [], .cp, none⟩,
 ⟨(some 10), [], [.t 9], [], [], .len false, none⟩,
 ⟨(some 11), [], [.c (.int .i64 0)], [], [], .cp, none⟩] [] [])
 (.block 0
 (.loop
 (.seq
 (.reg [⟨(some 12), [], [.t 11, .t 10], [], [], .bini .lss, none⟩] [] [])
 (.seq
 (.cond (.t 12)
 .skip
 (.exit 0))
 (.seq
 (.block 1
 (.seq
 (.reg [⟨(some 13), [], [.t 9, .t 11], [], [], .iaddr none 6, none⟩,
 ⟨(some 14), [], [.t 13], [], [], .load true 6, none⟩,
 ⟨(some 5), [], [], [], [5], .alloc [.val (.int .i64 0), .val (.int .i64 0), .val (.int .i64 0), .val (.int .i64 0), .val (.bool false), .own 7 []], none⟩,
 ⟨none, [14], [.t 5, .t 14], [], [5], .store true 6, none⟩] [13, 14] [])
 (.reg [⟨(some 15), [], [.t 3], [], [], .cp, none⟩,
 ⟨(some 16), [], [.t 5], [5], [], .load true 6, none⟩,
 ⟨(some 17), [], [.c (.fn (F n_txn_Code)), .t 16], [], [], .call 0 false, none⟩,
 ⟨(some 18), [], [.t 15, .t 17], [], [], .bins .add, none⟩,
 ⟨(some 3), [18], [.t 18], [], [], .mv, none⟩] [15, 16, 17, 18] [])))
 (.reg [⟨(some 19), [], [.t 11, .c (.int .i64 1)], [], [], .bini .add, none⟩,
 ⟨(some 11), [], [.t 19], [], [], .cp, none⟩] [5, 12, 13, 14, 15, 16, 17, 18, 19] [5])))))))
 (.seq
 (.reg [⟨(some 20), [], [.t 3], [], [], .cp, none⟩,
 ⟨(some 2), [20], [.t 20], [], [], .mv, none⟩] [20] [])
 .ret)))) }

def H_pref12_List : Hints := [(1, { ops := [], kt := [5, 6, 7], kb := [] }),
 (3, { ops := [], kt := [8, 9, 10], kb := [] }),
 (4, { ops := [], kt := [8, 9, 10, 11, 12, 13, 14, 15, 16, 17, 18, 19, 20], kb := [] }),
 (5, { ops := [], kt := [14, 15, 16, 17, 18, 19, 20], kb := [] }),
 (6, { ops := [], kt := [21], kb := [] })]
def c_pref12_List (F : Nat → FuncId) : AFun := { nparams := 1, ntmps := 22, results := [.tmp 2], body :=
 (.seq
 (.reg [⟨(some 2), [], [.c (.str [])], [], [], .cp, none⟩] [] [])
 (.seq
 (.reg [⟨(some 5), [], [.t 0], [], [], .cp, none⟩,
 ⟨(some 6), [], [.t 5], [], [], .len false, none⟩,
 ⟨(some 7), [], [.c (.fn (F n_pref02_Int)), .t 6], [], [], .call 0 false, none⟩,
 ⟨(some 3), [7], [.t 7], [], [], .mv, none⟩] [5, 6, 7] [])
 (.seq
 (.seq
 (.reg [⟨(some 4), [], [.c (.int .i64 0)], [], [], .cp, none⟩] [] [])
 (.block 0
 (.loop
 (.seq
 (.seq
 (.reg [⟨(some 8), [], [.t 4], [], [], .cp, none⟩,
 ⟨(some 9), [], [.t 0], [], [], .cp, none⟩,
 ⟨(some 10), [], [.t 9], [], [], .len false, none⟩,
 ⟨(some 11), [], [.t 8, .t 10], [], [], .bini .lss, none⟩] [8, 9, 10] [])
 (.cond (.t 11)
 .skip
 (.exit 0)))
 (.seq
 (.block 1
 (.reg [⟨(some 14), [], [.t 3], [], [], .cp, none⟩,
 ⟨(some 15), [], [.t 0], [], [], .cp, none⟩,
 ⟨(some 16), [], [.t 4], [], [], .cp, none⟩,
 ⟨(some 17), [], [.t 15, .t 16], [], [], .iaddr none 6, none⟩,
 ⟨(some 18), [], [.t 17], [], [], .load true 6, none⟩,
 ⟨(some 19), [], [.c (.fn (F n_pref12_Code)), .t 18], [], [], .call 0 false, none⟩,
 ⟨(some 20), [], [.t 14, .t 19], [], [], .bins .add, none⟩,
 ⟨(some 3), [20], [.t 20], [], [], .mv, none⟩] [14, 15, 16, 17, 18, 19, 20] []))
 (.reg [⟨(some 12), [], [.t 4], [], [], .cp, none⟩,
 ⟨(some 13), [], [.t 12, .c (.int .i64 1)], [], [], .bini .add, none⟩,
 ⟨(some 4), [13], [.t 13], [], [], .mv, none⟩] [8, 9, 10, 11, 12, 13, 14, 15, 16, 17, 18, 19, 20] []))))))
 (.seq
 (.reg [⟨(some 21), [], [.t 3], [], [], .cp, none⟩,
 ⟨(some 2), [21], [.t 21], [], [], .mv, none⟩] [21] [])
 .ret)))) }

def H_plaw12_one : Hints := [(1, { ops := [(8, { mw := [6] })], kt := [7, 8, 9, 10, 11, 12, 13, 14], kb := [] })]
def c_plaw12_one (F : Nat → FuncId) : AFun := { nparams := 3, ntmps := 15, results := [.cell 6 true 6], body :=
 (.seq
 (.reg [⟨(some 6), [], [], [], [6], .alloc [.val (.int .i64 0), .val (.int .i64 0), .val (.int .i64 0), .val (.int .i64 0), .val (.bool false), .own 7 []], none⟩] [] [])
 (.seq
 (.reg [⟨(some 7), [], [.t 0], [], [], .cp, none⟩,
 ⟨(some 8), [], [.t 1], [], [], .cp, none⟩,
 ⟨(some 9), [], [.t 7, .t 8], [], [], .build [.int .i64 0, .int .i64 0] [(0, 1), (1, 1)], none⟩,
 ⟨(some 10), [], [.t 2], [], [], .cp, none⟩,
 ⟨(some 11), [], [.c (.str [97])], [], [], .bslice 1 [.str []] [(0, 1)], none⟩,
 ⟨(some 12), [], [.c (.int .i64 3), .t 11, .c (.int .i64 1)], [], [], .build [.int .i64 0, .sl 1 [], .int .i64 0, .int .i64 0, .str [], .int .i64 0, .sl 3 []] [(0, 1), (1, 1), (5, 1)], none⟩,
 ⟨(some 13), [], [.t 12], [], [], .bslice 7 [.int .i64 0, .sl 1 [], .int .i64 0, .int .i64 0, .str [], .int .i64 0, .sl 3 []] [(0, 7)], none⟩,
 ⟨(some 14), [], [.t 9, .t 10, .t 13], [], [], .build [.int .i64 0, .int .i64 0, .int .i64 0, .int .i64 0, .bool false, .sl 7 []] [(0, 2), (3, 1), (5, 1)], none⟩,
 ⟨none, [14], [.t 6, .t 14], [], [6], .store true 6, none⟩] [7, 8, 9, 10, 11, 12, 13, 14] [])
 .ret)) }

def H_slices_EqualFunc_api_Op_api_Op_api_Op_api_Op : Hints := [(1, { ops := [], kt := [10, 11, 12, 13], kb := [] }),
 (5, { ops := [(5, { mw := [8] })], kt := [19, 20, 21], kb := [] }),
 (6, { ops := [(5, { mw := [9] })], kt := [22, 23, 24, 25], kb := [] }),
 (7, { ops := [(1, { mr := [8] }), (2, { mr := [9] })], kt := [26, 27, 28, 29], kb := [] }),
 (9, { ops := [], kt := [7, 8, 9, 18, 19, 20, 21, 22, 23, 24, 25, 26, 27, 28, 29, 30, 31], kb := [8, 9] })]
def c_slices_EqualFunc_api_Op_api_Op_api_Op_api_Op (F : Nat → FuncId) : AFun := { nparams := 3, ntmps := 32, results := [.tmp 6], body :=
 (.seq
 (.reg [⟨(some 6), [], [.c (.bool false)], [], [], .cp, none⟩] [] [])
 (.seq
 (.seq
 (.reg [⟨(some 10), [], [.t 0], [], [], .cp, none⟩,
 ⟨(some 11), [], [.t 10], [], [], .len false, none⟩,
 ⟨(some 12), [], [.t 1], [], [], .cp, none⟩,
 ⟨(some 13), [], [.t 12], [], [], .len false, none⟩,
 ⟨(some 14), [], [.t 11, .t 13], [], [], .bini .neq, none⟩] [10, 11, 12, 13] [])
 (.cond (.t 14)
 (.seq
 (.reg [⟨(some 6), [], [.c (.bool false)], [], [], .cp, none⟩] [] [])
 .ret)
 .skip))
 (.seq
 (.seq
 (.reg [⟨(some 15), [], [.t 0], [], [], .cp, none⟩,
 ⟨(some 16), [], [.t 15], [], [], .len false, none⟩,
 ⟨(some 17), [], [.c (.int .i64 0)], [], [], .cp, none⟩] [] [])
 (.block 0
 (.loop
 (.seq
 (.reg [⟨(some 18), [], [.t 17, .t 16], [], [], .bini .lss, none⟩] [] [])
 (.seq
 (.cond (.t 18)
 .skip
 (.exit 0))
 (.seq
 (.block 1
 (.seq
 (.reg [⟨(some 19), [], [.t 17], [], [], .cp, none⟩,
 ⟨(some 20), [], [.t 15, .t 17], [], [], .iaddr none 7, none⟩,
 ⟨(some 21), [], [.t 20], [], [], .load true 7, none⟩,
 ⟨(some 8), [], [], [], [8], .alloc [.val (.int .i64 0), .own 1 [], .val (.int .i64 0), .val (.int .i64 0), .val (.str []), .val (.int .i64 0), .own 3 []], none⟩,
 ⟨(some 7), [19], [.t 19], [], [], .mv, none⟩,
 ⟨none, [21], [.t 8, .t 21], [], [8], .store true 7, none⟩] [19, 20, 21] [])
 (.seq
 (.reg [⟨(some 22), [], [.t 1], [], [], .cp, none⟩,
 ⟨(some 23), [], [.t 7], [], [], .cp, none⟩,
 ⟨(some 24), [], [.t 22, .t 23], [], [], .iaddr none 7, none⟩,
 ⟨(some 25), [], [.t 24], [], [], .load true 7, none⟩,
 ⟨(some 9), [], [], [], [9], .alloc [.val (.int .i64 0), .own 1 [], .val (.int .i64 0), .val (.int .i64 0), .val (.str []), .val (.int .i64 0), .own 3 []], none⟩,
 ⟨none, [25], [.t 9, .t 25], [], [9], .store true 7, none⟩] [22, 23, 24, 25] [])
 (.seq
 (.reg [⟨(some 26), [], [.t 2], [], [], .cp, none⟩,
 ⟨(some 27), [], [.t 8], [8], [], .load true 7, none⟩,
 ⟨(some 28), [], [.t 9], [9], [], .load true 7, none⟩,
 ⟨(some 29), [], [.t 26, .t 27, .t 28], [], [], .call 0 false, none⟩,
 ⟨(some 30), [], [.t 29], [], [], .not, none⟩] [26, 27, 28, 29] [])
 (.cond (.t 30)
 (.seq
 (.reg [⟨(some 6), [], [.c (.bool false)], [], [], .cp, none⟩] [] [])
 .ret)
 .skip)))))
 (.reg [⟨(some 31), [], [.t 17, .c (.int .i64 1)], [], [], .bini .add, none⟩,
 ⟨(some 17), [], [.t 31], [], [], .cp, none⟩] [7, 8, 9, 18, 19, 20, 21, 22, 23, 24, 25, 26, 27, 28, 29, 30, 31] [8, 9])))))))
 (.seq
 (.reg [⟨(some 6), [], [.c (.bool true)], [], [], .cp, none⟩] [] [])
 .ret)))) }

def H_slices_BinarySearchFunc_api_Txn_api_Txn_api_Dot : Hints := [(1, { ops := [], kt := [12, 13], kb := [] }),
 (2, { ops := [], kt := [14], kb := [] }),
 (3, { ops := [], kt := [15, 16], kb := [] }),
 (4, { ops := [], kt := [18, 19, 20, 21, 22, 23], kb := [] }),
 (5, { ops := [(5, { mr := [4] })], kt := [24, 25, 26, 27, 28, 29, 30], kb := [] }),
 (6, { ops := [], kt := [32, 33], kb := [] }),
 (7, { ops := [], kt := [34], kb := [] }),
 (8, { ops := [(10, { mr := [4] })], kt := [35, 36, 37, 38, 39, 40, 41, 42, 43, 44, 45, 46, 47, 48], kb := [] }),
 (1000001, { ops := [], kt := [11, 15, 16, 17, 18, 19, 20, 21, 22, 23, 24, 25, 26, 27, 28, 29, 30, 31, 32, 33, 34], kb := [] })]
def c_slices_BinarySearchFunc_api_Txn_api_Txn_api_Dot (F : Nat → FuncId) : AFun := { nparams := 3, ntmps := 49, results := [.tmp 6, .tmp 7], body :=
 (.seq
 (.reg [⟨(some 4), [], [.t 1], [], [4], .box, none⟩,
 ⟨(some 6), [], [.c (.int .i64 0)], [], [], .cp, none⟩,
 ⟨(some 7), [], [.c (.bool false)], [], [], .cp, none⟩] [] [])
 (.seq
 (.reg [⟨(some 12), [], [.t 0], [], [], .cp, none⟩,
 ⟨(some 13), [], [.t 12], [], [], .len false, none⟩,
 ⟨(some 8), [13], [.t 13], [], [], .mv, none⟩] [12, 13] [])
 (.seq
 (.reg [⟨(some 14), [], [.t 8], [], [], .cp, none⟩,
 ⟨(some 9), [], [.c (.int .i64 0)], [], [], .cp, none⟩,
 ⟨(some 10), [14], [.t 14], [], [], .mv, none⟩] [14] [])
 (.seq
 (.block 0
 (.loop
 (.seq
 (.seq
 (.reg [⟨(some 15), [], [.t 9], [], [], .cp, none⟩,
 ⟨(some 16), [], [.t 10], [], [], .cp, none⟩,
 ⟨(some 17), [], [.t 15, .t 16], [], [], .bini .lss, none⟩] [15, 16] [])
 (.cond (.t 17)
 .skip
 (.exit 0)))
 (.seq
 (.block 1
 (.seq
 (.reg [⟨(some 18), [], [.t 9], [], [], .cp, none⟩,
 ⟨(some 19), [], [.t 10], [], [], .cp, none⟩,
 ⟨(some 20), [], [.t 18, .t 19], [], [], .bini .add, none⟩,
 ⟨(some 21), [], [.t 20], [], [], .conv .u64, none⟩,
 ⟨(some 22), [], [.t 21, .c (.int .u64 1)], [], [], .bini .shr, none⟩,
 ⟨(some 23), [], [.t 22], [], [], .conv .i64, none⟩,
 ⟨(some 11), [23], [.t 23], [], [], .mv, none⟩] [18, 19, 20, 21, 22, 23] [])
 (.seq
 (.reg [⟨(some 24), [], [.t 2], [], [], .cp, none⟩,
 ⟨(some 25), [], [.t 0], [], [], .cp, none⟩,
 ⟨(some 26), [], [.t 11], [], [], .cp, none⟩,
 ⟨(some 27), [], [.t 25, .t 26], [], [], .iaddr none 6, none⟩,
 ⟨(some 28), [], [.t 27], [], [], .load true 6, none⟩,
 ⟨(some 29), [], [.t 4], [4], [], .load true 2, none⟩,
 ⟨(some 30), [], [.t 24, .t 28, .t 29], [], [], .call 0 false, none⟩,
 ⟨(some 31), [], [.t 30, .c (.int .i64 0)], [], [], .bini .lss, none⟩] [24, 25, 26, 27, 28, 29, 30] [])
 (.cond (.t 31)
 (.reg [⟨(some 32), [], [.t 11], [], [], .cp, none⟩,
 ⟨(some 33), [], [.t 32, .c (.int .i64 1)], [], [], .bini .add, none⟩,
 ⟨(some 9), [33], [.t 33], [], [], .mv, none⟩] [32, 33] [])
 (.reg [⟨(some 34), [], [.t 11], [], [], .cp, none⟩,
 ⟨(some 10), [34], [.t 34], [], [], .mv, none⟩] [34] [])))))
 (.reg [] [11, 15, 16, 17, 18, 19, 20, 21, 22, 23, 24, 25, 26, 27, 28, 29, 30, 31, 32, 33, 34] [])))))
 (.seq
 (.reg [⟨(some 35), [], [.t 9], [], [], .cp, none⟩,
 ⟨(some 36), [], [.t 9], [], [], .cp, none⟩,
 ⟨(some 37), [], [.t 8], [], [], .cp, none⟩,
 ⟨(some 38), [], [.t 36, .t 37], [], [], .bini .lss, none⟩,
 ⟨(some 39), [], [.t 38], [], [], .cp, none⟩,
 ⟨(some 40), [], [.t 2], [], [], .cp, some (39, true)⟩,
 ⟨(some 41), [], [.t 0], [], [], .cp, some (39, true)⟩,
 ⟨(some 42), [], [.t 9], [], [], .cp, some (39, true)⟩,
 ⟨(some 43), [], [.t 41, .t 42], [], [], .iaddr none 6, some (39, true)⟩,
 ⟨(some 44), [], [.t 43], [], [], .load true 6, some (39, true)⟩,
 ⟨(some 45), [], [.t 4], [4], [], .load true 2, some (39, true)⟩,
 ⟨(some 46), [], [.t 40, .t 44, .t 45], [], [], .call 0 false, some (39, true)⟩,
 ⟨(some 47), [], [.t 46, .c (.int .i64 0)], [], [], .bini .eql, some (39, true)⟩,
 ⟨(some 48), [], [.t 39, .t 47, .c (.bool false)], [], [], .pick, none⟩,
 ⟨(some 6), [35], [.t 35], [], [], .mv, none⟩,
 ⟨(some 7), [48], [.t 48], [], [], .mv, none⟩] [35, 36, 37, 38, 39, 40, 41, 42, 43, 44, 45, 46, 47, 48] [])
 .ret))))) }

def H_txn_Find_1 : Hints := [(1, { ops := [(1, { mr := [2] }), (2, { mr := [3] })], kt := [5, 6, 7, 8], kb := [] })]
def c_txn_Find_1 (F : Nat → FuncId) : AFun := { nparams := 2, ntmps := 9, results := [.tmp 4], body :=
 (.seq
 (.reg [⟨(some 2), [], [.t 0], [], [2], .box, none⟩,
 ⟨(some 3), [], [.t 1], [], [3], .box, none⟩,
 ⟨(some 4), [], [.c (.int .i64 0)], [], [], .cp, none⟩] [] [])
 (.seq
 (.reg [⟨(some 5), [], [.t 2], [], [], .faddr 0, none⟩,
 ⟨(some 6), [], [.t 5], [2], [], .load true 2, none⟩,
 ⟨(some 7), [], [.t 3], [3], [], .load true 2, none⟩,
 ⟨(some 8), [], [.c (.fn (F n_dot_Compare)), .t 6, .t 7], [], [], .call 0 false, none⟩,
 ⟨(some 4), [8], [.t 8], [], [], .mv, none⟩] [5, 6, 7, 8] [])
 .ret)) }

end Go.AR
