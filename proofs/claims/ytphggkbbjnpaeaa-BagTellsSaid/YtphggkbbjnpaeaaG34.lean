import Derived.Test.YtphggkbbjnpaeaaG02
import Derived.Test.YtphggkbbjnpaeaaG03
set_option linter.all false
/-! Codes, printed by program. -/
namespace Go.AR
def H_plaw13_Good : Hints := [(1, { ops := [], kt := [5, 6, 7, 8, 9, 10], kb := [] })]
def c_plaw13_Good (F : Nat → FuncId) : AFun := { nparams := 2, ntmps := 11, results := [.tmp 4], body :=
 (.seq
 (.reg [⟨(some 4), [], [.c (.bool false)], [], [], .cp, none⟩] [] [])
 (.seq
 (.reg [⟨(some 5), [], [.t 0], [], [], .cp, none⟩,
 ⟨(some 6), [], [.c (.fn (F n_pref12_Good)), .t 5, .c (.int .i64 20)], [], [], .call 0 false, none⟩,
 ⟨(some 7), [], [.t 6], [], [], .cp, none⟩,
 ⟨(some 8), [], [.t 1], [], [], .cp, some (7, true)⟩,
 ⟨(some 9), [], [.c (.fn (F n_pref08_Good)), .t 8], [], [], .call 0 false, some (7, true)⟩,
 ⟨(some 10), [], [.t 7, .t 9, .c (.bool false)], [], [], .pick, none⟩,
 ⟨(some 4), [10], [.t 10], [], [], .mv, none⟩] [5, 6, 7, 8, 9, 10] [])
 .ret)) }

def H_live_All : Hints := [(0, { ops := [(0, { x := 4 })], kt := [], kb := [] }),
 (1, { ops := [(2, { mw := [14], new := true })], kt := [12, 13, 14], kb := [] }),
 (5, { ops := [(3, { mw := [8] })], kt := [19, 20], kb := [] }),
 (6, { ops := [(2, { mr := [8] })], kt := [21, 22, 23, 24], kb := [] }),
 (7, { ops := [(1, { mr := [8] })], kt := [26], kb := [] }),
 (9, { ops := [(5, { mw := [10] })], kt := [31, 32, 33], kb := [] }),
 (10, { ops := [(1, { mr := [8] }), (5, { mw := [11] })], kt := [34, 35, 36, 37], kb := [] }),
 (11, { ops := [(1, { mr := [10] }), (5, { mr := [10] }), (10, { mr := [10] }), (15, { mr := [11] }), (16, { mr := [14] })], kt := [38, 39, 40, 41, 42, 43, 44, 45, 46, 47, 48, 49, 50, 51, 52, 53, 54, 55], kb := [] }),
 (12, { ops := [(0, { take := true }), (1, { mr := [11] }), (2, { mr := [10] }), (4, { mr := [8] })], kt := [57, 58, 59, 60, 61, 62, 63, 64], kb := [] }),
 (13, { ops := [], kt := [9, 10, 11, 30, 31, 32, 33, 34, 35, 36, 37, 38, 39, 40, 41, 42, 43, 44, 45, 46, 47, 48, 49, 50, 51, 52, 53, 54, 55, 56, 57, 58, 59, 60, 61, 62, 63, 64, 65], kb := [10, 11] }),
 (14, { ops := [], kt := [8, 9, 10, 11, 18, 19, 20, 21, 22, 23, 24, 25, 26, 27, 28, 29, 30, 31, 32, 33, 34, 35, 36, 37, 38, 39, 40, 41, 42, 43, 44, 45, 46, 47, 48, 49, 50, 51, 52, 53, 54, 55, 56, 57, 58, 59, 60, 61, 62, 63, 64, 65, 66], kb := [8] }),
 (15, { ops := [], kt := [67], kb := [] })]
def c_live_All (F : Nat → FuncId) : AFun := { nparams := 2, ntmps := 68, results := [.tmp 4], body :=
 (.seq
 (.reg [⟨(some 4), [], [.c (.sl 11 [])], [], [], .cp, none⟩] [] [])
 (.seq
 (.reg [⟨(some 12), [], [.t 0], [], [], .cp, none⟩,
 ⟨(some 13), [], [.t 1], [], [], .cp, none⟩,
 ⟨(some 14), [], [.c (.fn (F n_live_covered)), .t 12, .t 13], [], [14], .call 0 true, none⟩,
 ⟨(some 5), [14], [.t 14], [], [], .mv, none⟩] [12, 13, 14] [])
 (.seq
 (.reg [⟨(some 6), [], [], [], [], .nils 11, none⟩] [] [])
 (.seq
 (.seq
 (.reg [⟨(some 15), [], [.t 0], [], [], .cp, none⟩,
 ⟨(some 16), [], [.t 15], [], [], .len false, none⟩,
 ⟨(some 17), [], [.c (.int .i64 0)], [], [], .cp, none⟩] [] [])
 (.block 0
 (.loop
 (.seq
 (.reg [⟨(some 18), [], [.t 17, .t 16], [], [], .bini .lss, none⟩] [] [])
 (.seq
 (.cond (.t 18)
 .skip
 (.exit 0))
 (.seq
 (.block 1
 (.seq
 (.reg [⟨(some 19), [], [.t 15, .t 17], [], [], .iaddr none 6, none⟩,
 ⟨(some 20), [], [.t 19], [], [], .load true 6, none⟩,
 ⟨(some 8), [], [], [], [8], .alloc [.val (.int .i64 0), .val (.int .i64 0), .val (.int .i64 0), .val (.int .i64 0), .val (.bool false), .own 7 []], none⟩,
 ⟨none, [20], [.t 8, .t 20], [], [8], .store true 6, none⟩] [19, 20] [])
 (.seq
 (.seq
 (.reg [⟨(some 21), [], [.t 1], [], [], .cp, none⟩,
 ⟨(some 22), [], [.t 8], [], [], .faddr 0, none⟩,
 ⟨(some 23), [], [.t 22], [8], [], .load true 2, none⟩,
 ⟨(some 24), [], [.c (.fn (F n_tally_Seen)), .t 21, .t 23], [], [], .call 0 false, none⟩,
 ⟨(some 25), [], [.t 24], [], [], .not, none⟩] [21, 22, 23, 24] [])
 (.cond (.t 25)
 (.exit 1)
 .skip))
 (.seq
 (.reg [⟨(some 26), [], [.t 8], [], [], .faddr 5, none⟩,
 ⟨(some 27), [], [.t 26], [8], [], .load false 1, none⟩,
 ⟨(some 28), [], [.t 27], [], [], .len false, none⟩,
 ⟨(some 29), [], [.c (.int .i64 0)], [], [], .cp, none⟩] [26] [])
 (.block 2
 (.loop
 (.seq
 (.reg [⟨(some 30), [], [.t 29, .t 28], [], [], .bini .lss, none⟩] [] [])
 (.seq
 (.cond (.t 30)
 .skip
 (.exit 2))
 (.seq
 (.block 3
 (.seq
 (.reg [⟨(some 31), [], [.t 29], [], [], .cp, none⟩,
 ⟨(some 32), [], [.t 27, .t 29], [], [], .iaddr none 7, none⟩,
 ⟨(some 33), [], [.t 32], [], [], .load true 7, none⟩,
 ⟨(some 10), [], [], [], [10], .alloc [.val (.int .i64 0), .own 1 [], .val (.int .i64 0), .val (.int .i64 0), .val (.str []), .val (.int .i64 0), .own 3 []], none⟩,
 ⟨(some 9), [31], [.t 31], [], [], .mv, none⟩,
 ⟨none, [33], [.t 10, .t 33], [], [10], .store true 7, none⟩] [31, 32, 33] [])
 (.seq
 (.reg [⟨(some 34), [], [.t 8], [], [], .faddr 0, none⟩,
 ⟨(some 35), [], [.t 34], [8], [], .load true 2, none⟩,
 ⟨(some 36), [], [.t 9], [], [], .cp, none⟩,
 ⟨(some 37), [], [.t 35, .t 36], [], [], .build [.int .i64 0, .int .i64 0, .int .i64 0] [(0, 2), (2, 1)], none⟩,
 ⟨(some 11), [], [], [], [11], .alloc [.val (.int .i64 0), .val (.int .i64 0), .val (.int .i64 0)], none⟩,
 ⟨none, [37], [.t 11, .t 37], [], [11], .store true 3, none⟩] [34, 35, 36, 37] [])
 (.seq
 (.reg [⟨(some 38), [], [.t 10], [], [], .faddr 0, none⟩,
 ⟨(some 39), [], [.t 38], [10], [], .load false 1, none⟩,
 ⟨(some 40), [], [.t 39, .c (.int .i64 1)], [], [], .bini .eql, none⟩,
 ⟨(some 41), [], [.t 40], [], [], .cp, none⟩,
 ⟨(some 42), [], [.t 10], [], [], .faddr 0, some (41, false)⟩,
 ⟨(some 43), [], [.t 42], [10], [], .load false 1, some (41, false)⟩,
 ⟨(some 44), [], [.t 43, .c (.int .i64 2)], [], [], .bini .eql, some (41, false)⟩,
 ⟨(some 45), [], [.t 41, .c (.bool true), .t 44], [], [], .pick, none⟩,
 ⟨(some 46), [], [.t 45], [], [], .cp, none⟩,
 ⟨(some 47), [], [.t 10], [], [], .faddr 0, some (46, false)⟩,
 ⟨(some 48), [], [.t 47], [10], [], .load false 1, some (46, false)⟩,
 ⟨(some 49), [], [.t 48, .c (.int .i64 3)], [], [], .bini .eql, some (46, false)⟩,
 ⟨(some 50), [], [.t 46, .c (.bool true), .t 49], [], [], .pick, none⟩,
 ⟨(some 51), [], [.t 50], [], [], .cp, none⟩,
 ⟨(some 52), [], [.t 5], [], [], .cp, some (51, true)⟩,
 ⟨(some 53), [], [.t 11], [11], [], .load true 3, some (51, true)⟩,
 ⟨(some 54), [], [.t 52, .t 53], [14], [], .lookup [.i, .i, .i] (.bool false) false, some (51, true)⟩,
 ⟨(some 55), [], [.t 54], [], [], .not, some (51, true)⟩,
 ⟨(some 56), [], [.t 51, .t 55, .c (.bool false)], [], [], .pick, none⟩] [38, 39, 40, 41, 42, 43, 44, 45, 46, 47, 48, 49, 50, 51, 52, 53, 54, 55] [])
 (.cond (.t 56)
 (.reg [⟨(some 57), [6], [.t 6], [], [], .mv, none⟩,
 ⟨(some 58), [], [.t 11], [11], [], .load true 3, none⟩,
 ⟨(some 59), [], [.t 10], [10], [], .load true 7, none⟩,
 ⟨(some 60), [], [.t 8], [], [], .faddr 3, none⟩,
 ⟨(some 61), [], [.t 60], [8], [], .load false 1, none⟩,
 ⟨(some 62), [], [.t 58, .t 59, .t 61], [], [], .build [.int .i64 0, .int .i64 0, .int .i64 0, .int .i64 0, .sl 1 [], .int .i64 0, .int .i64 0, .str [], .int .i64 0, .sl 3 [], .int .i64 0] [(0, 3), (3, 7), (10, 1)], none⟩,
 ⟨(some 63), [], [.t 62], [], [], .bslice 11 [.int .i64 0, .int .i64 0, .int .i64 0, .int .i64 0, .sl 1 [], .int .i64 0, .int .i64 0, .str [], .int .i64 0, .sl 3 [], .int .i64 0] [(0, 11)], none⟩,
 ⟨(some 64), [57], [.t 57, .t 63], [], [], .append 11 128, none⟩,
 ⟨(some 6), [64], [.t 64], [], [], .mv, none⟩] [57, 58, 59, 60, 61, 62, 63, 64] [])
 .skip)))))
 (.reg [⟨(some 65), [], [.t 29, .c (.int .i64 1)], [], [], .bini .add, none⟩,
 ⟨(some 29), [], [.t 65], [], [], .cp, none⟩] [9, 10, 11, 30, 31, 32, 33, 34, 35, 36, 37, 38, 39, 40, 41, 42, 43, 44, 45, 46, 47, 48, 49, 50, 51, 52, 53, 54, 55, 56, 57, 58, 59, 60, 61, 62, 63, 64, 65] [10, 11]))))))))))
 (.reg [⟨(some 66), [], [.t 17, .c (.int .i64 1)], [], [], .bini .add, none⟩,
 ⟨(some 17), [], [.t 66], [], [], .cp, none⟩] [8, 9, 10, 11, 18, 19, 20, 21, 22, 23, 24, 25, 26, 27, 28, 29, 30, 31, 32, 33, 34, 35, 36, 37, 38, 39, 40, 41, 42, 43, 44, 45, 46, 47, 48, 49, 50, 51, 52, 53, 54, 55, 56, 57, 58, 59, 60, 61, 62, 63, 64, 65, 66] [8])))))))
 (.seq
 (.reg [⟨(some 67), [], [.t 6], [], [], .cp, none⟩,
 ⟨(some 4), [67], [.t 67], [], [], .mv, none⟩] [67] [])
 .ret))))) }

def H_pref13_Covered : Hints := [(2, { ops := [], kt := [9, 10, 11], kb := [] }),
 (3, { ops := [], kt := [8, 9, 10, 11, 12, 13, 14, 15, 16, 17, 18, 19, 20, 21, 22, 23, 24, 25, 26, 27, 28, 29, 30, 31, 32, 33, 34, 35, 36, 37, 38, 39, 40, 41, 42, 43], kb := [] }),
 (5, { ops := [], kt := [15, 16, 17, 18, 19, 20, 21], kb := [] }),
 (6, { ops := [], kt := [15, 16, 17, 18, 19, 20, 21, 22, 23, 24, 25, 26, 27, 28, 29, 30, 31, 32, 33, 34, 35, 36, 37, 38, 39, 40, 41, 42, 43], kb := [] }),
 (7, { ops := [(8, { mr := [5] })], kt := [25, 26, 27, 28, 29, 30, 31, 32, 33, 34, 35, 36, 37, 38, 39, 40, 41, 42], kb := [] })]
def c_pref13_Covered (F : Nat → FuncId) : AFun := { nparams := 3, ntmps := 44, results := [.tmp 6], body :=
 (.seq
 (.reg [⟨(some 5), [], [.t 2], [], [5], .box, none⟩,
 ⟨(some 6), [], [.c (.bool false)], [], [], .cp, none⟩] [] [])
 (.seq
 (.seq
 (.reg [⟨(some 7), [], [.c (.int .i64 0)], [], [], .cp, none⟩] [] [])
 (.block 0
 (.loop
 (.seq
 (.seq
 (.reg [⟨(some 9), [], [.t 7], [], [], .cp, none⟩,
 ⟨(some 10), [], [.t 0], [], [], .cp, none⟩,
 ⟨(some 11), [], [.t 10], [], [], .len false, none⟩,
 ⟨(some 12), [], [.t 9, .t 11], [], [], .bini .lss, none⟩] [9, 10, 11] [])
 (.cond (.t 12)
 .skip
 (.exit 0)))
 (.seq
 (.block 1
 (.seq
 (.reg [⟨(some 8), [], [.c (.int .i64 0)], [], [], .cp, none⟩] [] [])
 (.block 2
 (.loop
 (.seq
 (.seq
 (.reg [⟨(some 15), [], [.t 8], [], [], .cp, none⟩,
 ⟨(some 16), [], [.t 0], [], [], .cp, none⟩,
 ⟨(some 17), [], [.t 7], [], [], .cp, none⟩,
 ⟨(some 18), [], [.t 16, .t 17], [], [], .iaddr none 6, none⟩,
 ⟨(some 19), [], [.t 18], [], [], .faddr 5, none⟩,
 ⟨(some 20), [], [.t 19], [], [], .load false 1, none⟩,
 ⟨(some 21), [], [.t 20], [], [], .len false, none⟩,
 ⟨(some 22), [], [.t 15, .t 21], [], [], .bini .lss, none⟩] [15, 16, 17, 18, 19, 20, 21] [])
 (.cond (.t 22)
 .skip
 (.exit 2)))
 (.seq
 (.block 3
 (.seq
 (.reg [⟨(some 25), [], [.t 0], [], [], .cp, none⟩,
 ⟨(some 26), [], [.t 7], [], [], .cp, none⟩,
 ⟨(some 27), [], [.t 25, .t 26], [], [], .iaddr none 6, none⟩,
 ⟨(some 28), [], [.t 27], [], [], .faddr 5, none⟩,
 ⟨(some 29), [], [.t 28], [], [], .load false 1, none⟩,
 ⟨(some 30), [], [.t 8], [], [], .cp, none⟩,
 ⟨(some 31), [], [.t 29, .t 30], [], [], .iaddr none 7, none⟩,
 ⟨(some 32), [], [.t 31], [], [], .load true 7, none⟩,
 ⟨(some 33), [], [.t 5], [5], [], .load true 3, none⟩,
 ⟨(some 34), [], [.c (.fn (F n_pref11_Covers)), .t 32, .t 33], [], [], .call 0 false, none⟩,
 ⟨(some 35), [], [.t 34], [], [], .cp, none⟩,
 ⟨(some 36), [], [.t 1], [], [], .cp, some (35, true)⟩,
 ⟨(some 37), [], [.t 0], [], [], .cp, some (35, true)⟩,
 ⟨(some 38), [], [.t 7], [], [], .cp, some (35, true)⟩,
 ⟨(some 39), [], [.t 37, .t 38], [], [], .iaddr none 6, some (35, true)⟩,
 ⟨(some 40), [], [.t 39], [], [], .faddr 0, some (35, true)⟩,
 ⟨(some 41), [], [.t 40], [], [], .load true 2, some (35, true)⟩,
 ⟨(some 42), [], [.c (.fn (F n_pref08_Seen)), .t 36, .t 41], [], [], .call 0 false, some (35, true)⟩,
 ⟨(some 43), [], [.t 35, .t 42, .c (.bool false)], [], [], .pick, none⟩] [25, 26, 27, 28, 29, 30, 31, 32, 33, 34, 35, 36, 37, 38, 39, 40, 41, 42] [])
 (.cond (.t 43)
 (.seq
 (.reg [⟨(some 6), [], [.c (.bool true)], [], [], .cp, none⟩] [] [])
 .ret)
 .skip)))
 (.reg [⟨(some 23), [], [.t 8], [], [], .cp, none⟩,
 ⟨(some 24), [], [.t 23, .c (.int .i64 1)], [], [], .bini .add, none⟩,
 ⟨(some 8), [24], [.t 24], [], [], .mv, none⟩] [15, 16, 17, 18, 19, 20, 21, 22, 23, 24, 25, 26, 27, 28, 29, 30, 31, 32, 33, 34, 35, 36, 37, 38, 39, 40, 41, 42, 43] [])))))))
 (.reg [⟨(some 13), [], [.t 7], [], [], .cp, none⟩,
 ⟨(some 14), [], [.t 13, .c (.int .i64 1)], [], [], .bini .add, none⟩,
 ⟨(some 7), [14], [.t 14], [], [], .mv, none⟩] [8, 9, 10, 11, 12, 13, 14, 15, 16, 17, 18, 19, 20, 21, 22, 23, 24, 25, 26, 27, 28, 29, 30, 31, 32, 33, 34, 35, 36, 37, 38, 39, 40, 41, 42, 43] []))))))
 (.seq
 (.reg [⟨(some 6), [], [.c (.bool false)], [], [], .cp, none⟩] [] [])
 .ret))) }

def H_pref13_All : Hints := [(0, { ops := [(0, { x := 4 })], kt := [], kb := [] }),
 (3, { ops := [], kt := [10, 11, 12], kb := [] }),
 (4, { ops := [], kt := [7, 8, 9, 10, 11, 12, 13, 14, 15, 16, 17, 18, 19, 20, 21, 22, 23, 24, 25, 26, 27, 28, 29, 30, 31, 32, 33, 34, 35, 36, 37, 38, 39, 40, 41, 42, 43, 44, 45, 46, 47, 48, 49, 50, 51, 52, 53, 54, 55, 56, 57, 58, 59, 60, 61, 62, 63, 64, 65, 66, 67, 68, 69, 70, 71, 72, 73, 74, 75], kb := [] }),
 (6, { ops := [], kt := [16, 17, 18, 19, 20, 21, 22], kb := [] }),
 (7, { ops := [], kt := [8, 9, 16, 17, 18, 19, 20, 21, 22, 23, 24, 25, 26, 27, 28, 29, 30, 31, 32, 33, 34, 35, 36, 37, 38, 39, 40, 41, 42, 43, 44, 45, 46, 47, 48, 49, 50, 51, 52, 53, 54, 55, 56, 57, 58, 59, 60, 61, 62, 63, 64, 65, 66, 67, 68, 69, 70, 71, 72, 73, 74, 75], kb := [8, 9] }),
 (8, { ops := [(9, { mw := [8] })], kt := [26, 27, 28, 29, 30, 31, 32, 33], kb := [] }),
 (9, { ops := [(8, { mw := [9] })], kt := [34, 35, 36, 37, 38, 39, 40], kb := [] }),
 (10, { ops := [(1, { mr := [8] }), (5, { mr := [8] }), (20, { mr := [9] })], kt := [41, 42, 43, 44, 45, 46, 47, 48, 49, 50, 51, 52, 53, 54, 55, 56, 57, 58, 59, 60, 61, 62, 63], kb := [] }),
 (11, { ops := [(0, { take := true }), (1, { mr := [9] }), (2, { mr := [8] })], kt := [65, 66, 67, 68, 69, 70, 71, 72, 73, 74, 75], kb := [] }),
 (12, { ops := [], kt := [76], kb := [] })]
def c_pref13_All (F : Nat → FuncId) : AFun := { nparams := 2, ntmps := 77, results := [.tmp 4], body :=
 (.seq
 (.reg [⟨(some 4), [], [.c (.sl 11 [])], [], [], .cp, none⟩] [] [])
 (.seq
 (.reg [⟨(some 5), [], [], [], [], .nils 11, none⟩] [] [])
 (.seq
 (.seq
 (.reg [⟨(some 6), [], [.c (.int .i64 0)], [], [], .cp, none⟩] [] [])
 (.block 0
 (.loop
 (.seq
 (.seq
 (.reg [⟨(some 10), [], [.t 6], [], [], .cp, none⟩,
 ⟨(some 11), [], [.t 0], [], [], .cp, none⟩,
 ⟨(some 12), [], [.t 11], [], [], .len false, none⟩,
 ⟨(some 13), [], [.t 10, .t 12], [], [], .bini .lss, none⟩] [10, 11, 12] [])
 (.cond (.t 13)
 .skip
 (.exit 0)))
 (.seq
 (.block 1
 (.seq
 (.reg [⟨(some 7), [], [.c (.int .i64 0)], [], [], .cp, none⟩] [] [])
 (.block 2
 (.loop
 (.seq
 (.seq
 (.reg [⟨(some 16), [], [.t 7], [], [], .cp, none⟩,
 ⟨(some 17), [], [.t 0], [], [], .cp, none⟩,
 ⟨(some 18), [], [.t 6], [], [], .cp, none⟩,
 ⟨(some 19), [], [.t 17, .t 18], [], [], .iaddr none 6, none⟩,
 ⟨(some 20), [], [.t 19], [], [], .faddr 5, none⟩,
 ⟨(some 21), [], [.t 20], [], [], .load false 1, none⟩,
 ⟨(some 22), [], [.t 21], [], [], .len false, none⟩,
 ⟨(some 23), [], [.t 16, .t 22], [], [], .bini .lss, none⟩] [16, 17, 18, 19, 20, 21, 22] [])
 (.cond (.t 23)
 .skip
 (.exit 2)))
 (.seq
 (.block 3
 (.seq
 (.reg [⟨(some 26), [], [.t 0], [], [], .cp, none⟩,
 ⟨(some 27), [], [.t 6], [], [], .cp, none⟩,
 ⟨(some 28), [], [.t 26, .t 27], [], [], .iaddr none 6, none⟩,
 ⟨(some 29), [], [.t 28], [], [], .faddr 5, none⟩,
 ⟨(some 30), [], [.t 29], [], [], .load false 1, none⟩,
 ⟨(some 31), [], [.t 7], [], [], .cp, none⟩,
 ⟨(some 32), [], [.t 30, .t 31], [], [], .iaddr none 7, none⟩,
 ⟨(some 33), [], [.t 32], [], [], .load true 7, none⟩,
 ⟨(some 8), [], [], [], [8], .alloc [.val (.int .i64 0), .own 1 [], .val (.int .i64 0), .val (.int .i64 0), .val (.str []), .val (.int .i64 0), .own 3 []], none⟩,
 ⟨none, [33], [.t 8, .t 33], [], [8], .store true 7, none⟩] [26, 27, 28, 29, 30, 31, 32, 33] [])
 (.seq
 (.reg [⟨(some 34), [], [.t 0], [], [], .cp, none⟩,
 ⟨(some 35), [], [.t 6], [], [], .cp, none⟩,
 ⟨(some 36), [], [.t 34, .t 35], [], [], .iaddr none 6, none⟩,
 ⟨(some 37), [], [.t 36], [], [], .faddr 0, none⟩,
 ⟨(some 38), [], [.t 37], [], [], .load true 2, none⟩,
 ⟨(some 39), [], [.t 7], [], [], .cp, none⟩,
 ⟨(some 40), [], [.t 38, .t 39], [], [], .build [.int .i64 0, .int .i64 0, .int .i64 0] [(0, 2), (2, 1)], none⟩,
 ⟨(some 9), [], [], [], [9], .alloc [.val (.int .i64 0), .val (.int .i64 0), .val (.int .i64 0)], none⟩,
 ⟨none, [40], [.t 9, .t 40], [], [9], .store true 3, none⟩] [34, 35, 36, 37, 38, 39, 40] [])
 (.seq
 (.reg [⟨(some 41), [], [.t 8], [], [], .faddr 0, none⟩,
 ⟨(some 42), [], [.t 41], [8], [], .load false 1, none⟩,
 ⟨(some 43), [], [.t 42, .c (.int .i64 1)], [], [], .bini .geq, none⟩,
 ⟨(some 44), [], [.t 43], [], [], .cp, none⟩,
 ⟨(some 45), [], [.t 8], [], [], .faddr 0, some (44, true)⟩,
 ⟨(some 46), [], [.t 45], [8], [], .load false 1, some (44, true)⟩,
 ⟨(some 47), [], [.t 46, .c (.int .i64 3)], [], [], .bini .leq, some (44, true)⟩,
 ⟨(some 48), [], [.t 44, .t 47, .c (.bool false)], [], [], .pick, none⟩,
 ⟨(some 49), [], [.t 48], [], [], .cp, none⟩,
 ⟨(some 50), [], [.t 1], [], [], .cp, some (49, true)⟩,
 ⟨(some 51), [], [.t 0], [], [], .cp, some (49, true)⟩,
 ⟨(some 52), [], [.t 6], [], [], .cp, some (49, true)⟩,
 ⟨(some 53), [], [.t 51, .t 52], [], [], .iaddr none 6, some (49, true)⟩,
 ⟨(some 54), [], [.t 53], [], [], .faddr 0, some (49, true)⟩,
 ⟨(some 55), [], [.t 54], [], [], .load true 2, some (49, true)⟩,
 ⟨(some 56), [], [.c (.fn (F n_pref08_Seen)), .t 50, .t 55], [], [], .call 0 false, some (49, true)⟩,
 ⟨(some 57), [], [.t 49, .t 56, .c (.bool false)], [], [], .pick, none⟩,
 ⟨(some 58), [], [.t 57], [], [], .cp, none⟩,
 ⟨(some 59), [], [.t 0], [], [], .cp, some (58, true)⟩,
 ⟨(some 60), [], [.t 1], [], [], .cp, some (58, true)⟩,
 ⟨(some 61), [], [.t 9], [9], [], .load true 3, some (58, true)⟩,
 ⟨(some 62), [], [.c (.fn (F n_pref13_Covered)), .t 59, .t 60, .t 61], [], [], .call 0 false, some (58, true)⟩,
 ⟨(some 63), [], [.t 62], [], [], .not, some (58, true)⟩,
 ⟨(some 64), [], [.t 58, .t 63, .c (.bool false)], [], [], .pick, none⟩] [41, 42, 43, 44, 45, 46, 47, 48, 49, 50, 51, 52, 53, 54, 55, 56, 57, 58, 59, 60, 61, 62, 63] [])
 (.cond (.t 64)
 (.reg [⟨(some 65), [5], [.t 5], [], [], .mv, none⟩,
 ⟨(some 66), [], [.t 9], [9], [], .load true 3, none⟩,
 ⟨(some 67), [], [.t 8], [8], [], .load true 7, none⟩,
 ⟨(some 68), [], [.t 0], [], [], .cp, none⟩,
 ⟨(some 69), [], [.t 6], [], [], .cp, none⟩,
 ⟨(some 70), [], [.t 68, .t 69], [], [], .iaddr none 6, none⟩,
 ⟨(some 71), [], [.t 70], [], [], .faddr 3, none⟩,
 ⟨(some 72), [], [.t 71], [], [], .load false 1, none⟩,
 ⟨(some 73), [], [.t 66, .t 67, .t 72], [], [], .build [.int .i64 0, .int .i64 0, .int .i64 0, .int .i64 0, .sl 1 [], .int .i64 0, .int .i64 0, .str [], .int .i64 0, .sl 3 [], .int .i64 0] [(0, 3), (3, 7), (10, 1)], none⟩,
 ⟨(some 74), [], [.t 73], [], [], .bslice 11 [.int .i64 0, .int .i64 0, .int .i64 0, .int .i64 0, .sl 1 [], .int .i64 0, .int .i64 0, .str [], .int .i64 0, .sl 3 [], .int .i64 0] [(0, 11)], none⟩,
 ⟨(some 75), [65], [.t 65, .t 74], [], [], .append 11 128, none⟩,
 ⟨(some 5), [75], [.t 75], [], [], .mv, none⟩] [65, 66, 67, 68, 69, 70, 71, 72, 73, 74, 75] [])
 .skip)))))
 (.reg [⟨(some 24), [], [.t 7], [], [], .cp, none⟩,
 ⟨(some 25), [], [.t 24, .c (.int .i64 1)], [], [], .bini .add, none⟩,
 ⟨(some 7), [25], [.t 25], [], [], .mv, none⟩] [8, 9, 16, 17, 18, 19, 20, 21, 22, 23, 24, 25, 26, 27, 28, 29, 30, 31, 32, 33, 34, 35, 36, 37, 38, 39, 40, 41, 42, 43, 44, 45, 46, 47, 48, 49, 50, 51, 52, 53, 54, 55, 56, 57, 58, 59, 60, 61, 62, 63, 64, 65, 66, 67, 68, 69, 70, 71, 72, 73, 74, 75] [8, 9])))))))
 (.reg [⟨(some 14), [], [.t 6], [], [], .cp, none⟩,
 ⟨(some 15), [], [.t 14, .c (.int .i64 1)], [], [], .bini .add, none⟩,
 ⟨(some 6), [15], [.t 15], [], [], .mv, none⟩] [7, 8, 9, 10, 11, 12, 13, 14, 15, 16, 17, 18, 19, 20, 21, 22, 23, 24, 25, 26, 27, 28, 29, 30, 31, 32, 33, 34, 35, 36, 37, 38, 39, 40, 41, 42, 43, 44, 45, 46, 47, 48, 49, 50, 51, 52, 53, 54, 55, 56, 57, 58, 59, 60, 61, 62, 63, 64, 65, 66, 67, 68, 69, 70, 71, 72, 73, 74, 75] []))))))
 (.seq
 (.reg [⟨(some 76), [], [.t 5], [], [], .cp, none⟩,
 ⟨(some 4), [76], [.t 76], [], [], .mv, none⟩] [76] [])
 .ret)))) }

def H_live_At : Hints := [(0, { ops := [(0, { x := 4 })], kt := [], kb := [] }),
 (4, { ops := [(3, { mw := [9] })], kt := [14, 15], kb := [] }),
 (5, { ops := [(2, { mr := [9] }), (9, { mr := [9] })], kt := [16, 17, 18, 19, 20, 21, 22, 23, 24, 25, 26, 27], kb := [] }),
 (6, { ops := [(0, { take := true }), (1, { mr := [9] })], kt := [29, 30, 31, 32], kb := [] }),
 (7, { ops := [], kt := [9, 13, 14, 15, 16, 17, 18, 19, 20, 21, 22, 23, 24, 25, 26, 27, 28, 29, 30, 31, 32, 33], kb := [9] }),
 (8, { ops := [], kt := [34], kb := [] })]
def c_live_At (F : Nat → FuncId) : AFun := { nparams := 3, ntmps := 35, results := [.tmp 6], body :=
 (.seq
 (.reg [⟨(some 6), [], [.c (.sl 11 [])], [], [], .cp, none⟩] [] [])
 (.seq
 (.reg [⟨(some 7), [], [], [], [], .nils 11, none⟩] [] [])
 (.seq
 (.seq
 (.reg [⟨(some 10), [], [.t 0], [], [], .cp, none⟩,
 ⟨(some 11), [], [.t 10], [], [], .len false, none⟩,
 ⟨(some 12), [], [.c (.int .i64 0)], [], [], .cp, none⟩] [] [])
 (.block 0
 (.loop
 (.seq
 (.reg [⟨(some 13), [], [.t 12, .t 11], [], [], .bini .lss, none⟩] [] [])
 (.seq
 (.cond (.t 13)
 .skip
 (.exit 0))
 (.seq
 (.block 1
 (.seq
 (.reg [⟨(some 14), [], [.t 10, .t 12], [], [], .iaddr none 11, none⟩,
 ⟨(some 15), [], [.t 14], [], [], .load true 11, none⟩,
 ⟨(some 9), [], [], [], [9], .alloc [.val (.int .i64 0), .val (.int .i64 0), .val (.int .i64 0), .val (.int .i64 0), .own 1 [], .val (.int .i64 0), .val (.int .i64 0), .val (.str []), .val (.int .i64 0), .own 3 [], .val (.int .i64 0)], none⟩,
 ⟨none, [15], [.t 9, .t 15], [], [9], .store true 11, none⟩] [14, 15] [])
 (.seq
 (.reg [⟨(some 16), [], [.t 9], [], [], .faddr 3, none⟩,
 ⟨(some 17), [], [.t 16], [], [], .faddr 0, none⟩,
 ⟨(some 18), [], [.t 17], [9], [], .load false 1, none⟩,
 ⟨(some 19), [], [.c (.fn (F n_op_Leaf)), .t 18], [], [], .call 0 false, none⟩,
 ⟨(some 20), [], [.t 2], [], [], .cp, none⟩,
 ⟨(some 21), [], [.t 19, .t 20], [], [], .bini .eql, none⟩,
 ⟨(some 22), [], [.t 21], [], [], .cp, none⟩,
 ⟨(some 23), [], [.t 9], [], [], .faddr 3, some (22, true)⟩,
 ⟨(some 24), [], [.t 23], [], [], .faddr 1, some (22, true)⟩,
 ⟨(some 25), [], [.t 24], [9], [], .load false 1, some (22, true)⟩,
 ⟨(some 26), [], [.t 1], [], [], .cp, some (22, true)⟩,
 ⟨(some 27), [], [.c (.fn (F n_path_Same)), .t 25, .t 26], [], [], .call 0 false, some (22, true)⟩,
 ⟨(some 28), [], [.t 22, .t 27, .c (.bool false)], [], [], .pick, none⟩] [16, 17, 18, 19, 20, 21, 22, 23, 24, 25, 26, 27] [])
 (.cond (.t 28)
 (.reg [⟨(some 29), [7], [.t 7], [], [], .mv, none⟩,
 ⟨(some 30), [], [.t 9], [9], [], .load true 11, none⟩,
 ⟨(some 31), [], [.t 30], [], [], .bslice 11 [.int .i64 0, .int .i64 0, .int .i64 0, .int .i64 0, .sl 1 [], .int .i64 0, .int .i64 0, .str [], .int .i64 0, .sl 3 [], .int .i64 0] [(0, 11)], none⟩,
 ⟨(some 32), [29], [.t 29, .t 31], [], [], .append 11 128, none⟩,
 ⟨(some 7), [32], [.t 32], [], [], .mv, none⟩] [29, 30, 31, 32] [])
 .skip))))
 (.reg [⟨(some 33), [], [.t 12, .c (.int .i64 1)], [], [], .bini .add, none⟩,
 ⟨(some 12), [], [.t 33], [], [], .cp, none⟩] [9, 13, 14, 15, 16, 17, 18, 19, 20, 21, 22, 23, 24, 25, 26, 27, 28, 29, 30, 31, 32, 33] [9])))))))
 (.seq
 (.reg [⟨(some 34), [], [.t 7], [], [], .cp, none⟩,
 ⟨(some 6), [34], [.t 34], [], [], .mv, none⟩] [34] [])
 .ret)))) }

def H_pref13_At : Hints := [(0, { ops := [(0, { x := 4 })], kt := [], kb := [] }),
 (3, { ops := [], kt := [9, 10, 11], kb := [] }),
 (4, { ops := [], kt := [9, 10, 11, 12, 13, 14, 15, 16, 17, 18, 19, 20, 21, 22, 23, 24, 25, 26, 27, 28, 29, 30, 31, 32, 33, 34, 35, 36, 37, 38, 39, 40, 41], kb := [] }),
 (5, { ops := [], kt := [15, 16, 17, 18, 19, 20, 21, 22, 23, 24, 25, 26, 27, 28, 29, 30, 31, 32, 33], kb := [] }),
 (6, { ops := [(0, { take := true })], kt := [35, 36, 37, 38, 39, 40, 41], kb := [] }),
 (7, { ops := [], kt := [42], kb := [] })]
def c_pref13_At (F : Nat → FuncId) : AFun := { nparams := 3, ntmps := 43, results := [.tmp 6], body :=
 (.seq
 (.reg [⟨(some 6), [], [.c (.sl 11 [])], [], [], .cp, none⟩] [] [])
 (.seq
 (.reg [⟨(some 7), [], [], [], [], .nils 11, none⟩] [] [])
 (.seq
 (.seq
 (.reg [⟨(some 8), [], [.c (.int .i64 0)], [], [], .cp, none⟩] [] [])
 (.block 0
 (.loop
 (.seq
 (.seq
 (.reg [⟨(some 9), [], [.t 8], [], [], .cp, none⟩,
 ⟨(some 10), [], [.t 0], [], [], .cp, none⟩,
 ⟨(some 11), [], [.t 10], [], [], .len false, none⟩,
 ⟨(some 12), [], [.t 9, .t 11], [], [], .bini .lss, none⟩] [9, 10, 11] [])
 (.cond (.t 12)
 .skip
 (.exit 0)))
 (.seq
 (.block 1
 (.seq
 (.reg [⟨(some 15), [], [.t 0], [], [], .cp, none⟩,
 ⟨(some 16), [], [.t 8], [], [], .cp, none⟩,
 ⟨(some 17), [], [.t 15, .t 16], [], [], .iaddr none 11, none⟩,
 ⟨(some 18), [], [.t 17], [], [], .faddr 3, none⟩,
 ⟨(some 19), [], [.t 18], [], [], .faddr 0, none⟩,
 ⟨(some 20), [], [.t 19], [], [], .load false 1, none⟩,
 ⟨(some 21), [], [.c (.fn (F n_pref11_Leaf)), .t 20], [], [], .call 0 false, none⟩,
 ⟨(some 22), [], [.t 2], [], [], .cp, none⟩,
 ⟨(some 23), [], [.t 21, .t 22], [], [], .bini .eql, none⟩,
 ⟨(some 24), [], [.t 23], [], [], .cp, none⟩,
 ⟨(some 25), [], [.t 0], [], [], .cp, some (24, true)⟩,
 ⟨(some 26), [], [.t 8], [], [], .cp, some (24, true)⟩,
 ⟨(some 27), [], [.t 25, .t 26], [], [], .iaddr none 11, some (24, true)⟩,
 ⟨(some 28), [], [.t 27], [], [], .faddr 3, some (24, true)⟩,
 ⟨(some 29), [], [.t 28], [], [], .faddr 1, some (24, true)⟩,
 ⟨(some 30), [], [.t 29], [], [], .load false 1, some (24, true)⟩,
 ⟨(some 31), [], [.t 1], [], [], .cp, some (24, true)⟩,
 ⟨(some 32), [], [.c (.fn (F n_pref10_Compare)), .t 30, .t 31], [], [], .call 0 false, some (24, true)⟩,
 ⟨(some 33), [], [.t 32, .c (.int .i64 0)], [], [], .bini .eql, some (24, true)⟩,
 ⟨(some 34), [], [.t 24, .t 33, .c (.bool false)], [], [], .pick, none⟩] [15, 16, 17, 18, 19, 20, 21, 22, 23, 24, 25, 26, 27, 28, 29, 30, 31, 32, 33] [])
 (.cond (.t 34)
 (.reg [⟨(some 35), [7], [.t 7], [], [], .mv, none⟩,
 ⟨(some 36), [], [.t 0], [], [], .cp, none⟩,
 ⟨(some 37), [], [.t 8], [], [], .cp, none⟩,
 ⟨(some 38), [], [.t 36, .t 37], [], [], .iaddr none 11, none⟩,
 ⟨(some 39), [], [.t 38], [], [], .load true 11, none⟩,
 ⟨(some 40), [], [.t 39], [], [], .bslice 11 [.int .i64 0, .int .i64 0, .int .i64 0, .int .i64 0, .sl 1 [], .int .i64 0, .int .i64 0, .str [], .int .i64 0, .sl 3 [], .int .i64 0] [(0, 11)], none⟩,
 ⟨(some 41), [35], [.t 35, .t 40], [], [], .append 11 128, none⟩,
 ⟨(some 7), [41], [.t 41], [], [], .mv, none⟩] [35, 36, 37, 38, 39, 40, 41] [])
 .skip)))
 (.reg [⟨(some 13), [], [.t 8], [], [], .cp, none⟩,
 ⟨(some 14), [], [.t 13, .c (.int .i64 1)], [], [], .bini .add, none⟩,
 ⟨(some 8), [14], [.t 14], [], [], .mv, none⟩] [9, 10, 11, 12, 13, 14, 15, 16, 17, 18, 19, 20, 21, 22, 23, 24, 25, 26, 27, 28, 29, 30, 31, 32, 33, 34, 35, 36, 37, 38, 39, 40, 41] []))))))
 (.seq
 (.reg [⟨(some 42), [], [.t 7], [], [], .cp, none⟩,
 ⟨(some 6), [42], [.t 42], [], [], .mv, none⟩] [42] [])
 .ret)))) }

def H_pref13_SameRefs : Hints := [(1, { ops := [], kt := [6, 7, 8, 9], kb := [] }),
 (4, { ops := [], kt := [11, 12, 13], kb := [] }),
 (5, { ops := [], kt := [11, 12, 13, 14, 15, 16, 17, 18, 19, 20, 21, 22, 23, 24, 25], kb := [] }),
 (6, { ops := [], kt := [17, 18, 19, 20, 21, 22, 23, 24], kb := [] })]
def c_pref13_SameRefs (F : Nat → FuncId) : AFun := { nparams := 2, ntmps := 26, results := [.tmp 4], body :=
 (.seq
 (.reg [⟨(some 4), [], [.c (.bool false)], [], [], .cp, none⟩] [] [])
 (.seq
 (.seq
 (.reg [⟨(some 6), [], [.t 0], [], [], .cp, none⟩,
 ⟨(some 7), [], [.t 6], [], [], .len false, none⟩,
 ⟨(some 8), [], [.t 1], [], [], .cp, none⟩,
 ⟨(some 9), [], [.t 8], [], [], .len false, none⟩,
 ⟨(some 10), [], [.t 7, .t 9], [], [], .bini .neq, none⟩] [6, 7, 8, 9] [])
 (.cond (.t 10)
 (.seq
 (.reg [⟨(some 4), [], [.c (.bool false)], [], [], .cp, none⟩] [] [])
 .ret)
 .skip))
 (.seq
 (.seq
 (.reg [⟨(some 5), [], [.c (.int .i64 0)], [], [], .cp, none⟩] [] [])
 (.block 0
 (.loop
 (.seq
 (.seq
 (.reg [⟨(some 11), [], [.t 5], [], [], .cp, none⟩,
 ⟨(some 12), [], [.t 0], [], [], .cp, none⟩,
 ⟨(some 13), [], [.t 12], [], [], .len false, none⟩,
 ⟨(some 14), [], [.t 11, .t 13], [], [], .bini .lss, none⟩] [11, 12, 13] [])
 (.cond (.t 14)
 .skip
 (.exit 0)))
 (.seq
 (.block 1
 (.seq
 (.reg [⟨(some 17), [], [.t 0], [], [], .cp, none⟩,
 ⟨(some 18), [], [.t 5], [], [], .cp, none⟩,
 ⟨(some 19), [], [.t 17, .t 18], [], [], .iaddr none 3, none⟩,
 ⟨(some 20), [], [.t 19], [], [], .load true 3, none⟩,
 ⟨(some 21), [], [.t 1], [], [], .cp, none⟩,
 ⟨(some 22), [], [.t 5], [], [], .cp, none⟩,
 ⟨(some 23), [], [.t 21, .t 22], [], [], .iaddr none 3, none⟩,
 ⟨(some 24), [], [.t 23], [], [], .load true 3, none⟩,
 ⟨(some 25), [], [.t 20, .t 24], [], [], .eqa [.i, .i, .i] true, none⟩] [17, 18, 19, 20, 21, 22, 23, 24] [])
 (.cond (.t 25)
 (.seq
 (.reg [⟨(some 4), [], [.c (.bool false)], [], [], .cp, none⟩] [] [])
 .ret)
 .skip)))
 (.reg [⟨(some 15), [], [.t 5], [], [], .cp, none⟩,
 ⟨(some 16), [], [.t 15, .c (.int .i64 1)], [], [], .bini .add, none⟩,
 ⟨(some 5), [16], [.t 16], [], [], .mv, none⟩] [11, 12, 13, 14, 15, 16, 17, 18, 19, 20, 21, 22, 23, 24, 25] []))))))
 (.seq
 (.reg [⟨(some 4), [], [.c (.bool true)], [], [], .cp, none⟩] [] [])
 .ret)))) }

def H_live_covered : Hints := [(0, { ops := [(0, { x := 6 })], kt := [], kb := [] }),
 (1, { ops := [], kt := [12], kb := [] }),
 (4, { ops := [(3, { mw := [7] })], kt := [17, 18], kb := [] }),
 (5, { ops := [(2, { mr := [7] })], kt := [19, 20, 21, 22], kb := [] }),
 (6, { ops := [(1, { mr := [7] })], kt := [24], kb := [] }),
 (8, { ops := [(3, { mw := [9] })], kt := [29, 30], kb := [] }),
 (9, { ops := [(1, { mr := [9] })], kt := [31], kb := [] }),
 (11, { ops := [(3, { mw := [11] })], kt := [36, 37], kb := [] }),
 (12, { ops := [(1, { mr := [11] }), (2, { mw := [12] })], kt := [38, 39], kb := [] }),
 (13, { ops := [], kt := [11, 35, 36, 37, 38, 39, 40], kb := [11] }),
 (14, { ops := [], kt := [9, 11, 28, 29, 30, 31, 32, 33, 34, 35, 36, 37, 38, 39, 40, 41], kb := [9] }),
 (15, { ops := [], kt := [7, 9, 11, 16, 17, 18, 19, 20, 21, 22, 23, 24, 25, 26, 27, 28, 29, 30, 31, 32, 33, 34, 35, 36, 37, 38, 39, 40, 41, 42], kb := [7] }),
 (16, { ops := [], kt := [43], kb := [] })]
def c_live_covered (F : Nat → FuncId) : AFun := { nparams := 2, ntmps := 44, results := [.tmp 4], body :=
 (.seq
 (.reg [⟨(some 4), [], [], [], [], .junk, none⟩] [] [])
 (.seq
 (.reg [⟨(some 12), [], [], [], [12], .mkmap, none⟩,
 ⟨(some 5), [12], [.t 12], [], [], .mv, none⟩] [12] [])
 (.seq
 (.seq
 (.reg [⟨(some 13), [], [.t 0], [], [], .cp, none⟩,
 ⟨(some 14), [], [.t 13], [], [], .len false, none⟩,
 ⟨(some 15), [], [.c (.int .i64 0)], [], [], .cp, none⟩] [] [])
 (.block 0
 (.loop
 (.seq
 (.reg [⟨(some 16), [], [.t 15, .t 14], [], [], .bini .lss, none⟩] [] [])
 (.seq
 (.cond (.t 16)
 .skip
 (.exit 0))
 (.seq
 (.block 1
 (.seq
 (.reg [⟨(some 17), [], [.t 13, .t 15], [], [], .iaddr none 6, none⟩,
 ⟨(some 18), [], [.t 17], [], [], .load true 6, none⟩,
 ⟨(some 7), [], [], [], [7], .alloc [.val (.int .i64 0), .val (.int .i64 0), .val (.int .i64 0), .val (.int .i64 0), .val (.bool false), .own 7 []], none⟩,
 ⟨none, [18], [.t 7, .t 18], [], [7], .store true 6, none⟩] [17, 18] [])
 (.seq
 (.seq
 (.reg [⟨(some 19), [], [.t 1], [], [], .cp, none⟩,
 ⟨(some 20), [], [.t 7], [], [], .faddr 0, none⟩,
 ⟨(some 21), [], [.t 20], [7], [], .load true 2, none⟩,
 ⟨(some 22), [], [.c (.fn (F n_tally_Seen)), .t 19, .t 21], [], [], .call 0 false, none⟩,
 ⟨(some 23), [], [.t 22], [], [], .not, none⟩] [19, 20, 21, 22] [])
 (.cond (.t 23)
 (.exit 1)
 .skip))
 (.seq
 (.reg [⟨(some 24), [], [.t 7], [], [], .faddr 5, none⟩,
 ⟨(some 25), [], [.t 24], [7], [], .load false 1, none⟩,
 ⟨(some 26), [], [.t 25], [], [], .len false, none⟩,
 ⟨(some 27), [], [.c (.int .i64 0)], [], [], .cp, none⟩] [24] [])
 (.block 2
 (.loop
 (.seq
 (.reg [⟨(some 28), [], [.t 27, .t 26], [], [], .bini .lss, none⟩] [] [])
 (.seq
 (.cond (.t 28)
 .skip
 (.exit 2))
 (.seq
 (.block 3
 (.seq
 (.reg [⟨(some 29), [], [.t 25, .t 27], [], [], .iaddr none 7, none⟩,
 ⟨(some 30), [], [.t 29], [], [], .load true 7, none⟩,
 ⟨(some 9), [], [], [], [9], .alloc [.val (.int .i64 0), .own 1 [], .val (.int .i64 0), .val (.int .i64 0), .val (.str []), .val (.int .i64 0), .own 3 []], none⟩,
 ⟨none, [30], [.t 9, .t 30], [], [9], .store true 7, none⟩] [29, 30] [])
 (.seq
 (.reg [⟨(some 31), [], [.t 9], [], [], .faddr 6, none⟩,
 ⟨(some 32), [], [.t 31], [9], [], .load false 1, none⟩,
 ⟨(some 33), [], [.t 32], [], [], .len false, none⟩,
 ⟨(some 34), [], [.c (.int .i64 0)], [], [], .cp, none⟩] [31] [])
 (.block 4
 (.loop
 (.seq
 (.reg [⟨(some 35), [], [.t 34, .t 33], [], [], .bini .lss, none⟩] [] [])
 (.seq
 (.cond (.t 35)
 .skip
 (.exit 4))
 (.seq
 (.block 5
 (.seq
 (.reg [⟨(some 36), [], [.t 32, .t 34], [], [], .iaddr none 3, none⟩,
 ⟨(some 37), [], [.t 36], [], [], .load true 3, none⟩,
 ⟨(some 11), [], [], [], [11], .alloc [.val (.int .i64 0), .val (.int .i64 0), .val (.int .i64 0)], none⟩,
 ⟨none, [37], [.t 11, .t 37], [], [11], .store true 3, none⟩] [36, 37] [])
 (.reg [⟨(some 38), [], [.t 5], [], [], .cp, none⟩,
 ⟨(some 39), [], [.t 11], [11], [], .load true 3, none⟩,
 ⟨none, [], [.t 38, .t 39, .c (.bool true)], [], [12], .mapup [.i, .i, .i], none⟩] [38, 39] [])))
 (.reg [⟨(some 40), [], [.t 34, .c (.int .i64 1)], [], [], .bini .add, none⟩,
 ⟨(some 34), [], [.t 40], [], [], .cp, none⟩] [11, 35, 36, 37, 38, 39, 40] [11])))))))))
 (.reg [⟨(some 41), [], [.t 27, .c (.int .i64 1)], [], [], .bini .add, none⟩,
 ⟨(some 27), [], [.t 41], [], [], .cp, none⟩] [9, 11, 28, 29, 30, 31, 32, 33, 34, 35, 36, 37, 38, 39, 40, 41] [9]))))))))))
 (.reg [⟨(some 42), [], [.t 15, .c (.int .i64 1)], [], [], .bini .add, none⟩,
 ⟨(some 15), [], [.t 42], [], [], .cp, none⟩] [7, 9, 11, 16, 17, 18, 19, 20, 21, 22, 23, 24, 25, 26, 27, 28, 29, 30, 31, 32, 33, 34, 35, 36, 37, 38, 39, 40, 41, 42] [7])))))))
 (.seq
 (.reg [⟨(some 43), [], [.t 5], [], [], .cp, none⟩,
 ⟨(some 4), [43], [.t 43], [], [], .mv, none⟩] [43] [])
 .ret)))) }

end Go.AR
