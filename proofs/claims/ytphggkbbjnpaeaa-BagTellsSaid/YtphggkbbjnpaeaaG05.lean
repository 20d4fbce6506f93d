import Derived.Test.YtphggkbbjnpaeaaG02
import Derived.Test.YtphggkbbjnpaeaaG03
set_option linter.all false
/-! Codes, printed by program. -/
namespace Go.AR
def H_pref08_Good : Hints := [(1, { ops := [], kt := [3, 4, 5, 6, 7, 8, 9], kb := [] })]
def c_pref08_Good (F : Nat → FuncId) : AFun := { nparams := 1, ntmps := 10, results := [.tmp 2], body :=
 (.seq
 (.reg [⟨(some 2), [], [.c (.bool false)], [], [], .cp, none⟩] [] [])
 (.seq
 (.reg [⟨(some 3), [], [.t 0], [], [], .cp, none⟩,
 ⟨(some 4), [], [.t 3], [], [], .len false, none⟩,
 ⟨(some 5), [], [.t 4, .c (.int .i64 100)], [], [], .bini .leq, none⟩,
 ⟨(some 6), [], [.t 5], [], [], .cp, none⟩,
 ⟨(some 7), [], [.t 0], [], [], .cp, some (6, true)⟩,
 ⟨(some 8), [], [.c (.fn (F n_pref08_Right)), .t 7], [], [], .call 0 false, some (6, true)⟩,
 ⟨(some 9), [], [.t 6, .t 8, .c (.bool false)], [], [], .pick, none⟩,
 ⟨(some 2), [9], [.t 9], [], [], .mv, none⟩] [3, 4, 5, 6, 7, 8, 9] [])
 .ret)) }

def H_pref04_Right : Hints := [(1, { ops := [(1, { mr := [1] }), (5, { mr := [1] }), (10, { mr := [1] }), (15, { mr := [1] })], kt := [3, 4, 5, 6, 7, 8, 9, 10, 11, 12, 13, 14, 15, 16, 17, 18, 19, 20], kb := [] })]
def c_pref04_Right (F : Nat → FuncId) : AFun := { nparams := 1, ntmps := 21, results := [.tmp 2], body :=
 (.seq
 (.reg [⟨(some 1), [], [.t 0], [], [1], .box, none⟩,
 ⟨(some 2), [], [.c (.bool false)], [], [], .cp, none⟩] [] [])
 (.seq
 (.reg [⟨(some 3), [], [.t 1], [], [], .faddr 0, none⟩,
 ⟨(some 4), [], [.t 3], [1], [], .load false 1, none⟩,
 ⟨(some 5), [], [.t 4, .c (.int .i64 0)], [], [], .bini .geq, none⟩,
 ⟨(some 6), [], [.t 5], [], [], .cp, none⟩,
 ⟨(some 7), [], [.t 1], [], [], .faddr 0, some (6, true)⟩,
 ⟨(some 8), [], [.t 7], [1], [], .load false 1, some (6, true)⟩,
 ⟨(some 9), [], [.t 8, .c (.int .i64 15)], [], [], .bini .leq, some (6, true)⟩,
 ⟨(some 10), [], [.t 6, .t 9, .c (.bool false)], [], [], .pick, none⟩,
 ⟨(some 11), [], [.t 10], [], [], .cp, none⟩,
 ⟨(some 12), [], [.t 1], [], [], .faddr 1, some (11, true)⟩,
 ⟨(some 13), [], [.t 12], [1], [], .load false 1, some (11, true)⟩,
 ⟨(some 14), [], [.t 13, .c (.int .i64 1)], [], [], .bini .geq, some (11, true)⟩,
 ⟨(some 15), [], [.t 11, .t 14, .c (.bool false)], [], [], .pick, none⟩,
 ⟨(some 16), [], [.t 15], [], [], .cp, none⟩,
 ⟨(some 17), [], [.t 1], [], [], .faddr 1, some (16, true)⟩,
 ⟨(some 18), [], [.t 17], [1], [], .load false 1, some (16, true)⟩,
 ⟨(some 19), [], [.t 18, .c (.int .i64 1048576)], [], [], .bini .leq, some (16, true)⟩,
 ⟨(some 20), [], [.t 16, .t 19, .c (.bool false)], [], [], .pick, none⟩,
 ⟨(some 2), [20], [.t 20], [], [], .mv, none⟩] [3, 4, 5, 6, 7, 8, 9, 10, 11, 12, 13, 14, 15, 16, 17, 18, 19, 20] [])
 .ret)) }

def H_tally_Get : Hints := [(1, { ops := [(1, { mr := [3] })], kt := [7, 8, 9, 10, 11, 12], kb := [] }),
 (3, { ops := [], kt := [14, 15, 16, 17, 18], kb := [] })]
def c_tally_Get (F : Nat → FuncId) : AFun := { nparams := 2, ntmps := 19, results := [.tmp 4], body :=
 (.seq
 (.reg [⟨(some 3), [], [.t 1], [], [3], .box, none⟩,
 ⟨(some 4), [], [.c (.int .i64 0)], [], [], .cp, none⟩] [] [])
 (.seq
 (.seq
 (.reg [⟨(some 8), [], [.t 0], [], [], .cp, none⟩,
 ⟨(some 9), [], [.t 3], [3], [], .load true 2, none⟩,
 ⟨(some 10), [], [.c (.fn (F n_tally_at)), .t 8, .t 9], [], [], .call 0 false, none⟩,
 ⟨(some 7), [], [.t 10], [], [], .cp, none⟩,
 ⟨(some 11), [], [.t 7], [], [], .extract 0, none⟩,
 ⟨(some 12), [], [.t 7], [], [], .extract 1, none⟩,
 ⟨(some 5), [11], [.t 11], [], [], .mv, none⟩,
 ⟨(some 6), [12], [.t 12], [], [], .mv, none⟩] [7, 8, 9, 10, 11, 12] [])
 (.seq
 (.reg [⟨(some 13), [], [.t 6], [], [], .cp, none⟩] [] [])
 (.cond (.t 13)
 (.seq
 (.reg [⟨(some 14), [], [.t 0], [], [], .cp, none⟩,
 ⟨(some 15), [], [.t 5], [], [], .cp, none⟩,
 ⟨(some 16), [], [.t 14, .t 15], [], [], .iaddr none 3, none⟩,
 ⟨(some 17), [], [.t 16], [], [], .faddr 2, none⟩,
 ⟨(some 18), [], [.t 17], [], [], .load false 1, none⟩,
 ⟨(some 4), [18], [.t 18], [], [], .mv, none⟩] [14, 15, 16, 17, 18] [])
 .ret)
 .skip)))
 (.seq
 (.reg [⟨(some 4), [], [.c (.int .i64 0)], [], [], .cp, none⟩] [] [])
 .ret))) }

def H_tally_Seen : Hints := [(1, { ops := [(1, { mr := [3] })], kt := [5, 6, 7, 8, 9], kb := [] })]
def c_tally_Seen (F : Nat → FuncId) : AFun := { nparams := 2, ntmps := 10, results := [.tmp 4], body :=
 (.seq
 (.reg [⟨(some 3), [], [.t 1], [], [3], .box, none⟩,
 ⟨(some 4), [], [.c (.bool false)], [], [], .cp, none⟩] [] [])
 (.seq
 (.reg [⟨(some 5), [], [.t 0], [], [], .cp, none⟩,
 ⟨(some 6), [], [.t 3], [3], [], .load true 2, none⟩,
 ⟨(some 7), [], [.c (.fn (F n_tally_Get)), .t 5, .t 6], [], [], .call 0 false, none⟩,
 ⟨(some 8), [], [.t 7, .c (.int .i64 2)], [], [], .bini .rem, none⟩,
 ⟨(some 9), [], [.t 8, .c (.int .i64 0)], [], [], .bini .eql, none⟩,
 ⟨(some 4), [9], [.t 9], [], [], .mv, none⟩] [5, 6, 7, 8, 9] [])
 .ret)) }

def H_pref08_Right : Hints := [(2, { ops := [], kt := [4, 5, 6], kb := [] }),
 (3, { ops := [], kt := [4, 5, 6, 7, 8, 9, 10, 11, 12, 13, 14, 15, 16, 17, 18, 19, 20, 21, 22, 23, 24, 25, 26, 27, 28, 29, 30, 31, 32, 33, 34], kb := [] }),
 (4, { ops := [], kt := [10, 11, 12, 13, 14, 15, 16, 17, 18, 19, 20, 21, 22, 23, 24, 25, 26, 27, 28, 29, 30, 31, 32, 33], kb := [] })]
def c_pref08_Right (F : Nat → FuncId) : AFun := { nparams := 1, ntmps := 35, results := [.tmp 2], body :=
 (.seq
 (.reg [⟨(some 2), [], [.c (.bool false)], [], [], .cp, none⟩] [] [])
 (.seq
 (.seq
 (.reg [⟨(some 3), [], [.c (.int .i64 0)], [], [], .cp, none⟩] [] [])
 (.block 0
 (.loop
 (.seq
 (.seq
 (.reg [⟨(some 4), [], [.t 3], [], [], .cp, none⟩,
 ⟨(some 5), [], [.t 0], [], [], .cp, none⟩,
 ⟨(some 6), [], [.t 5], [], [], .len false, none⟩,
 ⟨(some 7), [], [.t 4, .t 6], [], [], .bini .lss, none⟩] [4, 5, 6] [])
 (.cond (.t 7)
 .skip
 (.exit 0)))
 (.seq
 (.block 1
 (.seq
 (.reg [⟨(some 10), [], [.t 0], [], [], .cp, none⟩,
 ⟨(some 11), [], [.t 3], [], [], .cp, none⟩,
 ⟨(some 12), [], [.t 10, .t 11], [], [], .iaddr none 3, none⟩,
 ⟨(some 13), [], [.t 12], [], [], .load true 3, none⟩,
 ⟨(some 14), [], [.c (.fn (F n_pref08_one)), .t 13], [], [], .call 0 false, none⟩,
 ⟨(some 15), [], [.t 14], [], [], .not, none⟩,
 ⟨(some 16), [], [.t 15], [], [], .cp, none⟩,
 ⟨(some 17), [], [.t 3], [], [], .cp, some (16, false)⟩,
 ⟨(some 18), [], [.t 17, .c (.int .i64 0)], [], [], .bini .gtr, some (16, false)⟩,
 ⟨(some 19), [], [.t 18], [], [], .cp, some (16, false)⟩,
 ⟨(some 20), [], [.t 0], [], [], .cp, some (19, true)⟩,
 ⟨(some 21), [], [.t 3], [], [], .cp, some (19, true)⟩,
 ⟨(some 22), [], [.t 21, .c (.int .i64 1)], [], [], .bini .sub, some (19, true)⟩,
 ⟨(some 23), [], [.t 20, .t 22], [], [], .iaddr none 3, some (19, true)⟩,
 ⟨(some 24), [], [.t 23], [], [], .faddr 0, some (19, true)⟩,
 ⟨(some 25), [], [.t 24], [], [], .load true 2, some (19, true)⟩,
 ⟨(some 26), [], [.t 0], [], [], .cp, some (19, true)⟩,
 ⟨(some 27), [], [.t 3], [], [], .cp, some (19, true)⟩,
 ⟨(some 28), [], [.t 26, .t 27], [], [], .iaddr none 3, some (19, true)⟩,
 ⟨(some 29), [], [.t 28], [], [], .faddr 0, some (19, true)⟩,
 ⟨(some 30), [], [.t 29], [], [], .load true 2, some (19, true)⟩,
 ⟨(some 31), [], [.c (.fn (F n_pref04_Compare)), .t 25, .t 30], [], [], .call 0 false, some (19, true)⟩,
 ⟨(some 32), [], [.t 31, .c (.int .i64 (-1))], [], [], .bini .neq, some (19, true)⟩,
 ⟨(some 33), [], [.t 19, .t 32, .c (.bool false)], [], [], .pick, some (16, false)⟩,
 ⟨(some 34), [], [.t 16, .c (.bool true), .t 33], [], [], .pick, none⟩] [10, 11, 12, 13, 14, 15, 16, 17, 18, 19, 20, 21, 22, 23, 24, 25, 26, 27, 28, 29, 30, 31, 32, 33] [])
 (.cond (.t 34)
 (.seq
 (.reg [⟨(some 2), [], [.c (.bool false)], [], [], .cp, none⟩] [] [])
 .ret)
 .skip)))
 (.reg [⟨(some 8), [], [.t 3], [], [], .cp, none⟩,
 ⟨(some 9), [], [.t 8, .c (.int .i64 1)], [], [], .bini .add, none⟩,
 ⟨(some 3), [9], [.t 9], [], [], .mv, none⟩] [4, 5, 6, 7, 8, 9, 10, 11, 12, 13, 14, 15, 16, 17, 18, 19, 20, 21, 22, 23, 24, 25, 26, 27, 28, 29, 30, 31, 32, 33, 34] []))))))
 (.seq
 (.reg [⟨(some 2), [], [.c (.bool true)], [], [], .cp, none⟩] [] [])
 .ret))) }

def H_pref08_Get : Hints := [(2, { ops := [], kt := [6, 7, 8], kb := [] }),
 (3, { ops := [], kt := [6, 7, 8, 9, 10, 11, 12, 13, 14, 15, 16, 17, 18, 19, 20, 21, 22, 23], kb := [] }),
 (4, { ops := [(5, { mr := [3] })], kt := [12, 13, 14, 15, 16, 17], kb := [] }),
 (5, { ops := [], kt := [19, 20, 21, 22, 23], kb := [] })]
def c_pref08_Get (F : Nat → FuncId) : AFun := { nparams := 2, ntmps := 24, results := [.tmp 4], body :=
 (.seq
 (.reg [⟨(some 3), [], [.t 1], [], [3], .box, none⟩,
 ⟨(some 4), [], [.c (.int .i64 0)], [], [], .cp, none⟩] [] [])
 (.seq
 (.seq
 (.reg [⟨(some 5), [], [.c (.int .i64 0)], [], [], .cp, none⟩] [] [])
 (.block 0
 (.loop
 (.seq
 (.seq
 (.reg [⟨(some 6), [], [.t 5], [], [], .cp, none⟩,
 ⟨(some 7), [], [.t 0], [], [], .cp, none⟩,
 ⟨(some 8), [], [.t 7], [], [], .len false, none⟩,
 ⟨(some 9), [], [.t 6, .t 8], [], [], .bini .lss, none⟩] [6, 7, 8] [])
 (.cond (.t 9)
 .skip
 (.exit 0)))
 (.seq
 (.block 1
 (.seq
 (.reg [⟨(some 12), [], [.t 0], [], [], .cp, none⟩,
 ⟨(some 13), [], [.t 5], [], [], .cp, none⟩,
 ⟨(some 14), [], [.t 12, .t 13], [], [], .iaddr none 3, none⟩,
 ⟨(some 15), [], [.t 14], [], [], .faddr 0, none⟩,
 ⟨(some 16), [], [.t 15], [], [], .load true 2, none⟩,
 ⟨(some 17), [], [.t 3], [3], [], .load true 2, none⟩,
 ⟨(some 18), [], [.t 16, .t 17], [], [], .eqa [.i, .i] false, none⟩] [12, 13, 14, 15, 16, 17] [])
 (.cond (.t 18)
 (.seq
 (.reg [⟨(some 19), [], [.t 0], [], [], .cp, none⟩,
 ⟨(some 20), [], [.t 5], [], [], .cp, none⟩,
 ⟨(some 21), [], [.t 19, .t 20], [], [], .iaddr none 3, none⟩,
 ⟨(some 22), [], [.t 21], [], [], .faddr 2, none⟩,
 ⟨(some 23), [], [.t 22], [], [], .load false 1, none⟩,
 ⟨(some 4), [23], [.t 23], [], [], .mv, none⟩] [19, 20, 21, 22, 23] [])
 .ret)
 .skip)))
 (.reg [⟨(some 10), [], [.t 5], [], [], .cp, none⟩,
 ⟨(some 11), [], [.t 10, .c (.int .i64 1)], [], [], .bini .add, none⟩,
 ⟨(some 5), [11], [.t 11], [], [], .mv, none⟩] [6, 7, 8, 9, 10, 11, 12, 13, 14, 15, 16, 17, 18, 19, 20, 21, 22, 23] []))))))
 (.seq
 (.reg [⟨(some 4), [], [.c (.int .i64 0)], [], [], .cp, none⟩] [] [])
 .ret))) }

def H_pref08_Seen : Hints := [(1, { ops := [(1, { mr := [3] })], kt := [5, 6, 7, 8, 9], kb := [] })]
def c_pref08_Seen (F : Nat → FuncId) : AFun := { nparams := 2, ntmps := 10, results := [.tmp 4], body :=
 (.seq
 (.reg [⟨(some 3), [], [.t 1], [], [3], .box, none⟩,
 ⟨(some 4), [], [.c (.bool false)], [], [], .cp, none⟩] [] [])
 (.seq
 (.reg [⟨(some 5), [], [.t 0], [], [], .cp, none⟩,
 ⟨(some 6), [], [.t 3], [3], [], .load true 2, none⟩,
 ⟨(some 7), [], [.c (.fn (F n_pref08_Get)), .t 5, .t 6], [], [], .call 0 false, none⟩,
 ⟨(some 8), [], [.t 7, .c (.int .i64 2)], [], [], .bini .rem, none⟩,
 ⟨(some 9), [], [.t 8, .c (.int .i64 0)], [], [], .bini .eql, none⟩,
 ⟨(some 4), [9], [.t 9], [], [], .mv, none⟩] [5, 6, 7, 8, 9] [])
 .ret)) }

def H_tally_at : Hints := [(1, { ops := [(1, { mr := [3] })], kt := [6, 7, 8, 9, 10, 11], kb := [] })]
def c_tally_at (F : Nat → FuncId) : AFun := { nparams := 2, ntmps := 12, results := [.tmp 4, .tmp 5], body :=
 (.seq
 (.reg [⟨(some 3), [], [.t 1], [], [3], .box, none⟩,
 ⟨(some 4), [], [.c (.int .i64 0)], [], [], .cp, none⟩,
 ⟨(some 5), [], [.c (.bool false)], [], [], .cp, none⟩] [] [])
 (.seq
 (.reg [⟨(some 6), [], [.t 0], [], [], .cp, none⟩,
 ⟨(some 7), [], [.t 3], [3], [], .load true 2, none⟩,
 ⟨(some 8), [], [.t 7], [], [], .build [.int .i64 0, .int .i64 0, .int .i64 0] [(0, 2)], none⟩,
 ⟨(some 9), [], [.c (.fn (F n_slices_BinarySearchFunc_api_Undo_api_Undo_api_Undo)), .t 6, .t 8, .c (.fn (F n_tally_compare))], [], [], .call 0 false, none⟩,
 ⟨(some 10), [], [.t 9], [], [], .extract 0, none⟩,
 ⟨(some 11), [], [.t 9], [], [], .extract 1, none⟩,
 ⟨(some 4), [10], [.t 10], [], [], .mv, none⟩,
 ⟨(some 5), [11], [.t 11], [], [], .mv, none⟩] [6, 7, 8, 9, 10, 11] [])
 .ret)) }

def H_tally_compare : Hints := [(1, { ops := [(1, { mr := [2] }), (3, { mr := [3] })], kt := [5, 6, 7, 8, 9], kb := [] })]
def c_tally_compare (F : Nat → FuncId) : AFun := { nparams := 2, ntmps := 10, results := [.tmp 4], body :=
 (.seq
 (.reg [⟨(some 2), [], [.t 0], [], [2], .box, none⟩,
 ⟨(some 3), [], [.t 1], [], [3], .box, none⟩,
 ⟨(some 4), [], [.c (.int .i64 0)], [], [], .cp, none⟩] [] [])
 (.seq
 (.reg [⟨(some 5), [], [.t 2], [], [], .faddr 0, none⟩,
 ⟨(some 6), [], [.t 5], [2], [], .load true 2, none⟩,
 ⟨(some 7), [], [.t 3], [], [], .faddr 0, none⟩,
 ⟨(some 8), [], [.t 7], [3], [], .load true 2, none⟩,
 ⟨(some 9), [], [.c (.fn (F n_dot_Compare)), .t 6, .t 8], [], [], .call 0 false, none⟩,
 ⟨(some 4), [9], [.t 9], [], [], .mv, none⟩] [5, 6, 7, 8, 9] [])
 .ret)) }

def H_pref08_one : Hints := [(1, { ops := [(1, { mr := [1] }), (5, { mr := [1] }), (10, { mr := [1] })], kt := [3, 4, 5, 6, 7, 8, 9, 10, 11, 12, 13, 14, 15], kb := [] })]
def c_pref08_one (F : Nat → FuncId) : AFun := { nparams := 1, ntmps := 16, results := [.tmp 2], body :=
 (.seq
 (.reg [⟨(some 1), [], [.t 0], [], [1], .box, none⟩,
 ⟨(some 2), [], [.c (.bool false)], [], [], .cp, none⟩] [] [])
 (.seq
 (.reg [⟨(some 3), [], [.t 1], [], [], .faddr 0, none⟩,
 ⟨(some 4), [], [.t 3], [1], [], .load true 2, none⟩,
 ⟨(some 5), [], [.c (.fn (F n_pref04_Right)), .t 4], [], [], .call 0 false, none⟩,
 ⟨(some 6), [], [.t 5], [], [], .cp, none⟩,
 ⟨(some 7), [], [.t 1], [], [], .faddr 2, some (6, true)⟩,
 ⟨(some 8), [], [.t 7], [1], [], .load false 1, some (6, true)⟩,
 ⟨(some 9), [], [.t 8, .c (.int .i64 1)], [], [], .bini .geq, some (6, true)⟩,
 ⟨(some 10), [], [.t 6, .t 9, .c (.bool false)], [], [], .pick, none⟩,
 ⟨(some 11), [], [.t 10], [], [], .cp, none⟩,
 ⟨(some 12), [], [.t 1], [], [], .faddr 2, some (11, true)⟩,
 ⟨(some 13), [], [.t 12], [1], [], .load false 1, some (11, true)⟩,
 ⟨(some 14), [], [.t 13, .c (.int .i64 64)], [], [], .bini .leq, some (11, true)⟩,
 ⟨(some 15), [], [.t 11, .t 14, .c (.bool false)], [], [], .pick, none⟩,
 ⟨(some 2), [15], [.t 15], [], [], .mv, none⟩] [3, 4, 5, 6, 7, 8, 9, 10, 11, 12, 13, 14, 15] [])
 .ret)) }

def H_pref04_Compare : Hints := [(1, { ops := [(1, { mr := [2] }), (3, { mr := [3] })], kt := [5, 6, 7, 8], kb := [] }),
 (2, { ops := [(1, { mr := [2] }), (3, { mr := [3] })], kt := [10, 11, 12, 13, 14], kb := [] }),
 (3, { ops := [(1, { mr := [2] }), (3, { mr := [3] })], kt := [15, 16, 17, 18, 19], kb := [] })]
def c_pref04_Compare (F : Nat → FuncId) : AFun := { nparams := 2, ntmps := 20, results := [.tmp 4], body :=
 (.seq
 (.reg [⟨(some 2), [], [.t 0], [], [2], .box, none⟩,
 ⟨(some 3), [], [.t 1], [], [3], .box, none⟩,
 ⟨(some 4), [], [.c (.int .i64 0)], [], [], .cp, none⟩] [] [])
 (.seq
 (.seq
 (.reg [⟨(some 5), [], [.t 2], [], [], .faddr 0, none⟩,
 ⟨(some 6), [], [.t 5], [2], [], .load false 1, none⟩,
 ⟨(some 7), [], [.t 3], [], [], .faddr 0, none⟩,
 ⟨(some 8), [], [.t 7], [3], [], .load false 1, none⟩,
 ⟨(some 9), [], [.t 6, .t 8], [], [], .bini .neq, none⟩] [5, 6, 7, 8] [])
 (.cond (.t 9)
 (.seq
 (.reg [⟨(some 10), [], [.t 2], [], [], .faddr 0, none⟩,
 ⟨(some 11), [], [.t 10], [2], [], .load false 1, none⟩,
 ⟨(some 12), [], [.t 3], [], [], .faddr 0, none⟩,
 ⟨(some 13), [], [.t 12], [3], [], .load false 1, none⟩,
 ⟨(some 14), [], [.c (.fn (F n_pref04_ints)), .t 11, .t 13], [], [], .call 0 false, none⟩,
 ⟨(some 4), [14], [.t 14], [], [], .mv, none⟩] [10, 11, 12, 13, 14] [])
 .ret)
 .skip))
 (.seq
 (.reg [⟨(some 15), [], [.t 2], [], [], .faddr 1, none⟩,
 ⟨(some 16), [], [.t 15], [2], [], .load false 1, none⟩,
 ⟨(some 17), [], [.t 3], [], [], .faddr 1, none⟩,
 ⟨(some 18), [], [.t 17], [3], [], .load false 1, none⟩,
 ⟨(some 19), [], [.c (.fn (F n_pref04_ints)), .t 16, .t 18], [], [], .call 0 false, none⟩,
 ⟨(some 4), [19], [.t 19], [], [], .mv, none⟩] [15, 16, 17, 18, 19] [])
 .ret))) }

def H_slices_BinarySearchFunc_api_Undo_api_Undo_api_Undo : Hints := [(1, { ops := [], kt := [12, 13], kb := [] }),
 (2, { ops := [], kt := [14], kb := [] }),
 (3, { ops := [], kt := [15, 16], kb := [] }),
 (4, { ops := [], kt := [18, 19, 20, 21, 22, 23], kb := [] }),
 (5, { ops := [(5, { mr := [4] })], kt := [24, 25, 26, 27, 28, 29, 30], kb := [] }),
 (6, { ops := [], kt := [32, 33], kb := [] }),
 (7, { ops := [], kt := [34], kb := [] }),
 (8, { ops := [(10, { mr := [4] })], kt := [35, 36, 37, 38, 39, 40, 41, 42, 43, 44, 45, 46, 47, 48], kb := [] }),
 (1000001, { ops := [], kt := [11, 15, 16, 17, 18, 19, 20, 21, 22, 23, 24, 25, 26, 27, 28, 29, 30, 31, 32, 33, 34], kb := [] })]
def c_slices_BinarySearchFunc_api_Undo_api_Undo_api_Undo (F : Nat → FuncId) : AFun := { nparams := 3, ntmps := 49, results := [.tmp 6, .tmp 7], body :=
 (.seq
 (.reg [⟨(some 4), [], [.t 1], [], [4], .box, none⟩,
 ⟨(some 6), [], [.c (.int .i64 0)], [], [], .cp, none⟩,
 ⟨(some 7), [], [.c (.bool false)], [], [], .cp, none⟩] [] [])
 (.seq
 (.reg [⟨(some 12), [], [.t 0], [], [], .cp, none⟩,
 ⟨(some 13), [], [.t 12], [], [], .len false, none⟩,
 ⟨(some 8), [13], [.t 13], [], [], .mv, none⟩] [12, 13] [])
 (.seq
 (.reg [⟨(some 14), [], [.t 8], [], [], .cp, none⟩,
 ⟨(some 9), [], [.c (.int .i64 0)], [], [], .cp, none⟩,
 ⟨(some 10), [14], [.t 14], [], [], .mv, none⟩] [14] [])
 (.seq
 (.block 0
 (.loop
 (.seq
 (.seq
 (.reg [⟨(some 15), [], [.t 9], [], [], .cp, none⟩,
 ⟨(some 16), [], [.t 10], [], [], .cp, none⟩,
 ⟨(some 17), [], [.t 15, .t 16], [], [], .bini .lss, none⟩] [15, 16] [])
 (.cond (.t 17)
 .skip
 (.exit 0)))
 (.seq
 (.block 1
 (.seq
 (.reg [⟨(some 18), [], [.t 9], [], [], .cp, none⟩,
 ⟨(some 19), [], [.t 10], [], [], .cp, none⟩,
 ⟨(some 20), [], [.t 18, .t 19], [], [], .bini .add, none⟩,
 ⟨(some 21), [], [.t 20], [], [], .conv .u64, none⟩,
 ⟨(some 22), [], [.t 21, .c (.int .u64 1)], [], [], .bini .shr, none⟩,
 ⟨(some 23), [], [.t 22], [], [], .conv .i64, none⟩,
 ⟨(some 11), [23], [.t 23], [], [], .mv, none⟩] [18, 19, 20, 21, 22, 23] [])
 (.seq
 (.reg [⟨(some 24), [], [.t 2], [], [], .cp, none⟩,
 ⟨(some 25), [], [.t 0], [], [], .cp, none⟩,
 ⟨(some 26), [], [.t 11], [], [], .cp, none⟩,
 ⟨(some 27), [], [.t 25, .t 26], [], [], .iaddr none 3, none⟩,
 ⟨(some 28), [], [.t 27], [], [], .load true 3, none⟩,
 ⟨(some 29), [], [.t 4], [4], [], .load true 3, none⟩,
 ⟨(some 30), [], [.t 24, .t 28, .t 29], [], [], .call 0 false, none⟩,
 ⟨(some 31), [], [.t 30, .c (.int .i64 0)], [], [], .bini .lss, none⟩] [24, 25, 26, 27, 28, 29, 30] [])
 (.cond (.t 31)
 (.reg [⟨(some 32), [], [.t 11], [], [], .cp, none⟩,
 ⟨(some 33), [], [.t 32, .c (.int .i64 1)], [], [], .bini .add, none⟩,
 ⟨(some 9), [33], [.t 33], [], [], .mv, none⟩] [32, 33] [])
 (.reg [⟨(some 34), [], [.t 11], [], [], .cp, none⟩,
 ⟨(some 10), [34], [.t 34], [], [], .mv, none⟩] [34] [])))))
 (.reg [] [11, 15, 16, 17, 18, 19, 20, 21, 22, 23, 24, 25, 26, 27, 28, 29, 30, 31, 32, 33, 34] [])))))
 (.seq
 (.reg [⟨(some 35), [], [.t 9], [], [], .cp, none⟩,
 ⟨(some 36), [], [.t 9], [], [], .cp, none⟩,
 ⟨(some 37), [], [.t 8], [], [], .cp, none⟩,
 ⟨(some 38), [], [.t 36, .t 37], [], [], .bini .lss, none⟩,
 ⟨(some 39), [], [.t 38], [], [], .cp, none⟩,
 ⟨(some 40), [], [.t 2], [], [], .cp, some (39, true)⟩,
 ⟨(some 41), [], [.t 0], [], [], .cp, some (39, true)⟩,
 ⟨(some 42), [], [.t 9], [], [], .cp, some (39, true)⟩,
 ⟨(some 43), [], [.t 41, .t 42], [], [], .iaddr none 3, some (39, true)⟩,
 ⟨(some 44), [], [.t 43], [], [], .load true 3, some (39, true)⟩,
 ⟨(some 45), [], [.t 4], [4], [], .load true 3, some (39, true)⟩,
 ⟨(some 46), [], [.t 40, .t 44, .t 45], [], [], .call 0 false, some (39, true)⟩,
 ⟨(some 47), [], [.t 46, .c (.int .i64 0)], [], [], .bini .eql, some (39, true)⟩,
 ⟨(some 48), [], [.t 39, .t 47, .c (.bool false)], [], [], .pick, none⟩,
 ⟨(some 6), [35], [.t 35], [], [], .mv, none⟩,
 ⟨(some 7), [48], [.t 48], [], [], .mv, none⟩] [35, 36, 37, 38, 39, 40, 41, 42, 43, 44, 45, 46, 47, 48] [])
 .ret))))) }

def H_dot_Compare : Hints := [(1, { ops := [(1, { mr := [2] }), (3, { mr := [3] }), (6, { mr := [2] }), (8, { mr := [3] })], kt := [5, 6, 7, 8, 9, 10, 11, 12, 13, 14, 15, 16], kb := [] })]
def c_dot_Compare (F : Nat → FuncId) : AFun := { nparams := 2, ntmps := 17, results := [.tmp 4], body :=
 (.seq
 (.reg [⟨(some 2), [], [.t 0], [], [2], .box, none⟩,
 ⟨(some 3), [], [.t 1], [], [3], .box, none⟩,
 ⟨(some 4), [], [.c (.int .i64 0)], [], [], .cp, none⟩] [] [])
 (.seq
 (.reg [⟨(some 5), [], [.t 2], [], [], .faddr 0, none⟩,
 ⟨(some 6), [], [.t 5], [2], [], .load false 1, none⟩,
 ⟨(some 7), [], [.t 3], [], [], .faddr 0, none⟩,
 ⟨(some 8), [], [.t 7], [3], [], .load false 1, none⟩,
 ⟨(some 9), [], [.c (.fn (F n_cmp_Compare_int)), .t 6, .t 8], [], [], .call 0 false, none⟩,
 ⟨(some 10), [], [.t 2], [], [], .faddr 1, none⟩,
 ⟨(some 11), [], [.t 10], [2], [], .load false 1, none⟩,
 ⟨(some 12), [], [.t 3], [], [], .faddr 1, none⟩,
 ⟨(some 13), [], [.t 12], [3], [], .load false 1, none⟩,
 ⟨(some 14), [], [.c (.fn (F n_cmp_Compare_int)), .t 11, .t 13], [], [], .call 0 false, none⟩,
 ⟨(some 15), [], [.t 9, .t 14], [], [], .bslice 1 [.int .i64 0, .int .i64 0] [(0, 1), (1, 1)], none⟩,
 ⟨(some 16), [], [.c (.fn (F n_cmp_Or_int)), .t 15], [], [], .call 0 false, none⟩,
 ⟨(some 4), [16], [.t 16], [], [], .mv, none⟩] [5, 6, 7, 8, 9, 10, 11, 12, 13, 14, 15, 16] [])
 .ret)) }

def H_pref04_ints : Hints := [(1, { ops := [], kt := [5, 6], kb := [] }),
 (3, { ops := [], kt := [8, 9], kb := [] })]
def c_pref04_ints (F : Nat → FuncId) : AFun := { nparams := 2, ntmps := 11, results := [.tmp 4], body :=
 (.seq
 (.reg [⟨(some 4), [], [.c (.int .i64 0)], [], [], .cp, none⟩] [] [])
 (.seq
 (.seq
 (.reg [⟨(some 5), [], [.t 0], [], [], .cp, none⟩,
 ⟨(some 6), [], [.t 1], [], [], .cp, none⟩,
 ⟨(some 7), [], [.t 5, .t 6], [], [], .bini .lss, none⟩] [5, 6] [])
 (.cond (.t 7)
 (.seq
 (.reg [⟨(some 4), [], [.c (.int .i64 (-1))], [], [], .cp, none⟩] [] [])
 .ret)
 .skip))
 (.seq
 (.seq
 (.reg [⟨(some 8), [], [.t 0], [], [], .cp, none⟩,
 ⟨(some 9), [], [.t 1], [], [], .cp, none⟩,
 ⟨(some 10), [], [.t 8, .t 9], [], [], .bini .gtr, none⟩] [8, 9] [])
 (.cond (.t 10)
 (.seq
 (.reg [⟨(some 4), [], [.c (.int .i64 1)], [], [], .cp, none⟩] [] [])
 .ret)
 .skip))
 (.seq
 (.reg [⟨(some 4), [], [.c (.int .i64 0)], [], [], .cp, none⟩] [] [])
 .ret)))) }

def H_cmp_Or_int : Hints := [(4, { ops := [], kt := [10, 11], kb := [] }),
 (5, { ops := [], kt := [12, 13], kb := [] }),
 (6, { ops := [], kt := [15], kb := [] }),
 (7, { ops := [], kt := [5, 9, 10, 11, 12, 13, 14, 15, 16], kb := [] }),
 (8, { ops := [], kt := [17], kb := [] })]
def c_cmp_Or_int (F : Nat → FuncId) : AFun := { nparams := 1, ntmps := 18, results := [.tmp 2], body :=
 (.seq
 (.reg [⟨(some 2), [], [.c (.int .i64 0)], [], [], .cp, none⟩] [] [])
 (.seq
 (.reg [⟨(some 3), [], [.c (.int .i64 0)], [], [], .cp, none⟩] [] [])
 (.seq
 (.seq
 (.reg [⟨(some 6), [], [.t 0], [], [], .cp, none⟩,
 ⟨(some 7), [], [.t 6], [], [], .len false, none⟩,
 ⟨(some 8), [], [.c (.int .i64 0)], [], [], .cp, none⟩] [] [])
 (.block 0
 (.loop
 (.seq
 (.reg [⟨(some 9), [], [.t 8, .t 7], [], [], .bini .lss, none⟩] [] [])
 (.seq
 (.cond (.t 9)
 .skip
 (.exit 0))
 (.seq
 (.block 1
 (.seq
 (.reg [⟨(some 10), [], [.t 6, .t 8], [], [], .iaddr none 1, none⟩,
 ⟨(some 11), [], [.t 10], [], [], .load false 1, none⟩,
 ⟨(some 5), [11], [.t 11], [], [], .mv, none⟩] [10, 11] [])
 (.seq
 (.reg [⟨(some 12), [], [.t 5], [], [], .cp, none⟩,
 ⟨(some 13), [], [.t 3], [], [], .cp, none⟩,
 ⟨(some 14), [], [.t 12, .t 13], [], [], .bini .neq, none⟩] [12, 13] [])
 (.cond (.t 14)
 (.seq
 (.reg [⟨(some 15), [], [.t 5], [], [], .cp, none⟩,
 ⟨(some 2), [15], [.t 15], [], [], .mv, none⟩] [15] [])
 .ret)
 .skip))))
 (.reg [⟨(some 16), [], [.t 8, .c (.int .i64 1)], [], [], .bini .add, none⟩,
 ⟨(some 8), [], [.t 16], [], [], .cp, none⟩] [5, 9, 10, 11, 12, 13, 14, 15, 16] [])))))))
 (.seq
 (.reg [⟨(some 17), [], [.t 3], [], [], .cp, none⟩,
 ⟨(some 2), [17], [.t 17], [], [], .mv, none⟩] [17] [])
 .ret)))) }

def H_cmp_Compare_int : Hints := [(1, { ops := [], kt := [7, 8], kb := [] }),
 (2, { ops := [], kt := [9, 10], kb := [] }),
 (9, { ops := [], kt := [14, 15], kb := [] }),
 (11, { ops := [], kt := [17, 18], kb := [] })]
def c_cmp_Compare_int (F : Nat → FuncId) : AFun := { nparams := 2, ntmps := 20, results := [.tmp 4], body :=
 (.seq
 (.reg [⟨(some 4), [], [.c (.int .i64 0)], [], [], .cp, none⟩] [] [])
 (.seq
 (.reg [⟨(some 7), [], [.t 0], [], [], .cp, none⟩,
 ⟨(some 8), [], [.c (.fn (F n_cmp_isNaN_int)), .t 7], [], [], .call 0 false, none⟩,
 ⟨(some 5), [8], [.t 8], [], [], .mv, none⟩] [7, 8] [])
 (.seq
 (.reg [⟨(some 9), [], [.t 1], [], [], .cp, none⟩,
 ⟨(some 10), [], [.c (.fn (F n_cmp_isNaN_int)), .t 9], [], [], .call 0 false, none⟩,
 ⟨(some 6), [10], [.t 10], [], [], .mv, none⟩] [9, 10] [])
 (.seq
 (.seq
 (.reg [⟨(some 11), [], [.t 5], [], [], .cp, none⟩] [] [])
 (.cond (.t 11)
 (.seq
 (.seq
 (.reg [⟨(some 12), [], [.t 6], [], [], .cp, none⟩] [] [])
 (.cond (.t 12)
 (.seq
 (.reg [⟨(some 4), [], [.c (.int .i64 0)], [], [], .cp, none⟩] [] [])
 .ret)
 .skip))
 (.seq
 (.reg [⟨(some 4), [], [.c (.int .i64 (-1))], [], [], .cp, none⟩] [] [])
 .ret))
 .skip))
 (.seq
 (.seq
 (.reg [⟨(some 13), [], [.t 6], [], [], .cp, none⟩] [] [])
 (.cond (.t 13)
 (.seq
 (.reg [⟨(some 4), [], [.c (.int .i64 1)], [], [], .cp, none⟩] [] [])
 .ret)
 .skip))
 (.seq
 (.seq
 (.reg [⟨(some 14), [], [.t 0], [], [], .cp, none⟩,
 ⟨(some 15), [], [.t 1], [], [], .cp, none⟩,
 ⟨(some 16), [], [.t 14, .t 15], [], [], .bini .lss, none⟩] [14, 15] [])
 (.cond (.t 16)
 (.seq
 (.reg [⟨(some 4), [], [.c (.int .i64 (-1))], [], [], .cp, none⟩] [] [])
 .ret)
 .skip))
 (.seq
 (.seq
 (.reg [⟨(some 17), [], [.t 0], [], [], .cp, none⟩,
 ⟨(some 18), [], [.t 1], [], [], .cp, none⟩,
 ⟨(some 19), [], [.t 17, .t 18], [], [], .bini .gtr, none⟩] [17, 18] [])
 (.cond (.t 19)
 (.seq
 (.reg [⟨(some 4), [], [.c (.int .i64 1)], [], [], .cp, none⟩] [] [])
 .ret)
 .skip))
 (.seq
 (.reg [⟨(some 4), [], [.c (.int .i64 0)], [], [], .cp, none⟩] [] [])
 .ret)))))))) }

def H_cmp_isNaN_int : Hints := [(1, { ops := [], kt := [3, 4, 5], kb := [] })]
def c_cmp_isNaN_int (F : Nat → FuncId) : AFun := { nparams := 1, ntmps := 6, results := [.tmp 2], body :=
 (.seq
 (.reg [⟨(some 2), [], [.c (.bool false)], [], [], .cp, none⟩] [] [])
 (.seq
 (.reg [⟨(some 3), [], [.t 0], [], [], .cp, none⟩,
 ⟨(some 4), [], [.t 0], [], [], .cp, none⟩,
 ⟨(some 5), [], [.t 3, .t 4], [], [], .bini .neq, none⟩,
 ⟨(some 2), [5], [.t 5], [], [], .mv, none⟩] [3, 4, 5] [])
 .ret)) }

end Go.AR

/-! Codes, printed by program. -/
namespace Go.AR
def H_pref03_Runes : Hints := [(3, { ops := [], kt := [8, 9, 10], kb := [] }),
 (4, { ops := [], kt := [12, 13, 14, 15, 16, 17, 18], kb := [] }),
 (5, { ops := [], kt := [19], kb := [] }),
 (7, { ops := [(0, { take := true })], kt := [21, 22, 23, 24], kb := [] }),
 (8, { ops := [], kt := [25, 26, 27], kb := [] }),
 (9, { ops := [], kt := [28], kb := [] }),
 (1000001, { ops := [], kt := [6, 7, 8, 9, 10, 11, 12, 13, 14, 15, 16, 17, 18, 19, 20, 21, 22, 23, 24, 25, 26, 27], kb := [] })]
def c_pref03_Runes (F : Nat → FuncId) : AFun := { nparams := 1, ntmps := 29, results := [.tmp 2, .tmp 3], body :=
 (.seq
 (.reg [⟨(some 2), [], [], [], [], .nils 1, none⟩,
 ⟨(some 3), [], [.c (.bool false)], [], [], .cp, none⟩] [] [])
 (.seq
 (.reg [⟨(some 4), [], [], [], [], .nils 1, none⟩] [] [])
 (.seq
 (.seq
 (.reg [⟨(some 5), [], [.c (.int .i64 0)], [], [], .cp, none⟩] [] [])
 (.block 0
 (.loop
 (.seq
 (.seq
 (.reg [⟨(some 8), [], [.t 5], [], [], .cp, none⟩,
 ⟨(some 9), [], [.t 0], [], [], .cp, none⟩,
 ⟨(some 10), [], [.t 9], [], [], .len true, none⟩,
 ⟨(some 11), [], [.t 8, .t 10], [], [], .bini .lss, none⟩] [8, 9, 10] [])
 (.cond (.t 11)
 .skip
 (.exit 0)))
 (.seq
 (.block 1
 (.seq
 (.reg [⟨(some 13), [], [.t 0], [], [], .cp, none⟩,
 ⟨(some 14), [], [.t 5], [], [], .cp, none⟩,
 ⟨(some 15), [], [.t 13, .t 14], [], [], .slices true false, none⟩,
 ⟨(some 16), [], [.c (.fn (F n_pref03_Char)), .t 15], [], [], .call 0 false, none⟩,
 ⟨(some 12), [], [.t 16], [], [], .cp, none⟩,
 ⟨(some 17), [], [.t 12], [], [], .extract 0, none⟩,
 ⟨(some 18), [], [.t 12], [], [], .extract 1, none⟩,
 ⟨(some 6), [17], [.t 17], [], [], .mv, none⟩,
 ⟨(some 7), [18], [.t 18], [], [], .mv, none⟩] [12, 13, 14, 15, 16, 17, 18] [])
 (.seq
 (.seq
 (.reg [⟨(some 19), [], [.t 7], [], [], .cp, none⟩,
 ⟨(some 20), [], [.t 19, .c (.int .i64 0)], [], [], .bini .eql, none⟩] [19] [])
 (.cond (.t 20)
 (.seq
 (.reg [⟨(some 2), [], [], [], [], .nils 1, none⟩,
 ⟨(some 3), [], [.c (.bool false)], [], [], .cp, none⟩] [] [])
 .ret)
 .skip))
 (.seq
 (.reg [⟨(some 21), [4], [.t 4], [], [], .mv, none⟩,
 ⟨(some 22), [], [.t 6], [], [], .cp, none⟩,
 ⟨(some 23), [], [.t 22], [], [], .bslice 1 [.int .i64 0] [(0, 1)], none⟩,
 ⟨(some 24), [21], [.t 21, .t 23], [], [], .append 1 8, none⟩,
 ⟨(some 4), [24], [.t 24], [], [], .mv, none⟩] [21, 22, 23, 24] [])
 (.reg [⟨(some 25), [], [.t 5], [], [], .cp, none⟩,
 ⟨(some 26), [], [.t 7], [], [], .cp, none⟩,
 ⟨(some 27), [], [.t 25, .t 26], [], [], .bini .add, none⟩,
 ⟨(some 5), [27], [.t 27], [], [], .mv, none⟩] [25, 26, 27] [])))))
 (.reg [] [6, 7, 8, 9, 10, 11, 12, 13, 14, 15, 16, 17, 18, 19, 20, 21, 22, 23, 24, 25, 26, 27] []))))))
 (.seq
 (.reg [⟨(some 28), [], [.t 4], [], [], .cp, none⟩,
 ⟨(some 2), [28], [.t 28], [], [], .mv, none⟩,
 ⟨(some 3), [], [.c (.bool true)], [], [], .cp, none⟩] [28] [])
 .ret)))) }

def H_pref03_Right : Hints := [(1, { ops := [], kt := [6, 7, 8, 9, 10], kb := [] }),
 (3, { ops := [], kt := [11, 12, 13], kb := [] }),
 (4, { ops := [], kt := [11, 12, 13, 14, 15, 16, 17, 18, 19, 20, 21, 22], kb := [] }),
 (5, { ops := [], kt := [17, 18, 19, 20, 21], kb := [] }),
 (7, { ops := [], kt := [23, 24, 25, 26, 27, 28, 29, 30, 31, 32, 33], kb := [] })]
def c_pref03_Right (F : Nat → FuncId) : AFun := { nparams := 1, ntmps := 34, results := [.tmp 2], body :=
 (.seq
 (.reg [⟨(some 2), [], [.c (.bool false)], [], [], .cp, none⟩] [] [])
 (.seq
 (.reg [⟨(some 7), [], [.t 0], [], [], .cp, none⟩,
 ⟨(some 8), [], [.c (.fn (F n_pref03_Runes)), .t 7], [], [], .call 0 false, none⟩,
 ⟨(some 6), [], [.t 8], [], [], .cp, none⟩,
 ⟨(some 9), [], [.t 6], [], [], .extract 0, none⟩,
 ⟨(some 10), [], [.t 6], [], [], .extract 1, none⟩,
 ⟨(some 3), [9], [.t 9], [], [], .mv, none⟩,
 ⟨(some 4), [10], [.t 10], [], [], .mv, none⟩] [6, 7, 8, 9, 10] [])
 (.seq
 (.seq
 (.reg [⟨(some 5), [], [.c (.int .i64 0)], [], [], .cp, none⟩] [] [])
 (.block 0
 (.loop
 (.seq
 (.seq
 (.reg [⟨(some 11), [], [.t 5], [], [], .cp, none⟩,
 ⟨(some 12), [], [.t 3], [], [], .cp, none⟩,
 ⟨(some 13), [], [.t 12], [], [], .len false, none⟩,
 ⟨(some 14), [], [.t 11, .t 13], [], [], .bini .lss, none⟩] [11, 12, 13] [])
 (.cond (.t 14)
 .skip
 (.exit 0)))
 (.seq
 (.block 1
 (.seq
 (.reg [⟨(some 17), [], [.t 3], [], [], .cp, none⟩,
 ⟨(some 18), [], [.t 5], [], [], .cp, none⟩,
 ⟨(some 19), [], [.t 17, .t 18], [], [], .iaddr none 1, none⟩,
 ⟨(some 20), [], [.t 19], [], [], .load false 1, none⟩,
 ⟨(some 21), [], [.c (.fn (F n_pref03_may)), .t 20], [], [], .call 0 false, none⟩,
 ⟨(some 22), [], [.t 21], [], [], .not, none⟩] [17, 18, 19, 20, 21] [])
 (.cond (.t 22)
 (.seq
 (.reg [⟨(some 2), [], [.c (.bool false)], [], [], .cp, none⟩] [] [])
 .ret)
 .skip)))
 (.reg [⟨(some 15), [], [.t 5], [], [], .cp, none⟩,
 ⟨(some 16), [], [.t 15, .c (.int .i64 1)], [], [], .bini .add, none⟩,
 ⟨(some 5), [16], [.t 16], [], [], .mv, none⟩] [11, 12, 13, 14, 15, 16, 17, 18, 19, 20, 21, 22] []))))))
 (.seq
 (.reg [⟨(some 23), [], [.t 4], [], [], .cp, none⟩,
 ⟨(some 24), [], [.t 23], [], [], .cp, none⟩,
 ⟨(some 25), [], [.t 3], [], [], .cp, some (24, true)⟩,
 ⟨(some 26), [], [.t 25], [], [], .len false, some (24, true)⟩,
 ⟨(some 27), [], [.t 26, .c (.int .i64 1)], [], [], .bini .geq, some (24, true)⟩,
 ⟨(some 28), [], [.t 24, .t 27, .c (.bool false)], [], [], .pick, none⟩,
 ⟨(some 29), [], [.t 28], [], [], .cp, none⟩,
 ⟨(some 30), [], [.t 3], [], [], .cp, some (29, true)⟩,
 ⟨(some 31), [], [.t 30], [], [], .len false, some (29, true)⟩,
 ⟨(some 32), [], [.t 31, .c (.int .i64 24)], [], [], .bini .leq, some (29, true)⟩,
 ⟨(some 33), [], [.t 29, .t 32, .c (.bool false)], [], [], .pick, none⟩,
 ⟨(some 2), [33], [.t 33], [], [], .mv, none⟩] [23, 24, 25, 26, 27, 28, 29, 30, 31, 32, 33] [])
 .ret)))) }

def H_pref03_Char : Hints := [(1, { ops := [], kt := [8, 9], kb := [] }),
 (3, { ops := [], kt := [11, 12, 13], kb := [] }),
 (6, { ops := [], kt := [15, 16], kb := [] }),
 (7, { ops := [], kt := [17], kb := [] }),
 (8, { ops := [], kt := [19, 20, 21, 22, 23, 24], kb := [] }),
 (9, { ops := [], kt := [25, 26], kb := [] }),
 (10, { ops := [], kt := [28, 29, 30, 31, 32, 33], kb := [] }),
 (11, { ops := [], kt := [34, 35], kb := [] }),
 (12, { ops := [], kt := [37, 38, 39, 40, 41, 42], kb := [] }),
 (13, { ops := [], kt := [43, 44], kb := [] }),
 (14, { ops := [], kt := [45, 46, 47], kb := [] }),
 (17, { ops := [], kt := [49, 50], kb := [] }),
 (18, { ops := [], kt := [49, 50, 51, 52, 53, 54, 55, 56, 57, 58, 59, 60, 61, 62, 63, 64, 65, 66, 67, 68, 69, 70, 71], kb := [] }),
 (19, { ops := [], kt := [54, 55, 56, 57, 58, 59, 60, 61, 62], kb := [] }),
 (21, { ops := [], kt := [64, 65, 66, 67, 68, 69, 70, 71], kb := [] }),
 (22, { ops := [], kt := [72, 73, 74, 75, 76, 77, 78, 79, 80, 81, 82, 83, 84, 85], kb := [] }),
 (24, { ops := [], kt := [87, 88], kb := [] })]
def c_pref03_Char (F : Nat → FuncId) : AFun := { nparams := 1, ntmps := 89, results := [.tmp 2, .tmp 3], body :=
 (.seq
 (.reg [⟨(some 2), [], [.c (.int .i64 0)], [], [], .cp, none⟩,
 ⟨(some 3), [], [.c (.int .i64 0)], [], [], .cp, none⟩] [] [])
 (.seq
 (.seq
 (.reg [⟨(some 8), [], [.t 0], [], [], .cp, none⟩,
 ⟨(some 9), [], [.t 8], [], [], .len true, none⟩,
 ⟨(some 10), [], [.t 9, .c (.int .i64 0)], [], [], .bini .eql, none⟩] [8, 9] [])
 (.cond (.t 10)
 (.seq
 (.reg [⟨(some 2), [], [.c (.int .i64 0)], [], [], .cp, none⟩,
 ⟨(some 3), [], [.c (.int .i64 0)], [], [], .cp, none⟩] [] [])
 .ret)
 .skip))
 (.seq
 (.reg [⟨(some 11), [], [.t 0], [], [], .cp, none⟩,
 ⟨(some 12), [], [.t 11, .c (.int .i64 0)], [], [], .indexs, none⟩,
 ⟨(some 13), [], [.t 12], [], [], .conv .i64, none⟩,
 ⟨(some 4), [13], [.t 13], [], [], .mv, none⟩] [11, 12, 13] [])
 (.seq
 (.reg [⟨(some 5), [], [.c (.int .i64 1)], [], [], .cp, none⟩,
 ⟨(some 6), [], [.c (.int .i64 0)], [], [], .cp, none⟩] [] [])
 (.seq
 (.block 0
 (.seq
 (.reg [⟨(some 15), [], [.t 4], [], [], .cp, none⟩,
 ⟨(some 16), [], [.t 15, .c (.int .i64 128)], [], [], .bini .lss, none⟩,
 ⟨(some 14), [16], [.t 16], [], [], .mv, none⟩] [15, 16] [])
 (.cond (.t 14)
 (.seq
 (.reg [⟨(some 17), [], [.t 4], [], [], .cp, none⟩,
 ⟨(some 2), [17], [.t 17], [], [], .mv, none⟩,
 ⟨(some 3), [], [.c (.int .i64 1)], [], [], .cp, none⟩] [17] [])
 .ret)
 (.seq
 (.reg [⟨(some 19), [], [.t 4], [], [], .cp, none⟩,
 ⟨(some 20), [], [.t 19, .c (.int .i64 194)], [], [], .bini .geq, none⟩,
 ⟨(some 21), [], [.t 20], [], [], .cp, none⟩,
 ⟨(some 22), [], [.t 4], [], [], .cp, some (21, true)⟩,
 ⟨(some 23), [], [.t 22, .c (.int .i64 224)], [], [], .bini .lss, some (21, true)⟩,
 ⟨(some 24), [], [.t 21, .t 23, .c (.bool false)], [], [], .pick, none⟩,
 ⟨(some 18), [24], [.t 24], [], [], .mv, none⟩] [19, 20, 21, 22, 23, 24] [])
 (.cond (.t 18)
 (.reg [⟨(some 25), [], [.t 4], [], [], .cp, none⟩,
 ⟨(some 26), [], [.t 25, .c (.int .i64 192)], [], [], .bini .sub, none⟩,
 ⟨(some 5), [], [.c (.int .i64 2)], [], [], .cp, none⟩,
 ⟨(some 6), [], [.c (.int .i64 128)], [], [], .cp, none⟩,
 ⟨(some 4), [26], [.t 26], [], [], .mv, none⟩] [25, 26] [])
 (.seq
 (.reg [⟨(some 28), [], [.t 4], [], [], .cp, none⟩,
 ⟨(some 29), [], [.t 28, .c (.int .i64 224)], [], [], .bini .geq, none⟩,
 ⟨(some 30), [], [.t 29], [], [], .cp, none⟩,
 ⟨(some 31), [], [.t 4], [], [], .cp, some (30, true)⟩,
 ⟨(some 32), [], [.t 31, .c (.int .i64 240)], [], [], .bini .lss, some (30, true)⟩,
 ⟨(some 33), [], [.t 30, .t 32, .c (.bool false)], [], [], .pick, none⟩,
 ⟨(some 27), [33], [.t 33], [], [], .mv, none⟩] [28, 29, 30, 31, 32, 33] [])
 (.cond (.t 27)
 (.reg [⟨(some 34), [], [.t 4], [], [], .cp, none⟩,
 ⟨(some 35), [], [.t 34, .c (.int .i64 224)], [], [], .bini .sub, none⟩,
 ⟨(some 5), [], [.c (.int .i64 3)], [], [], .cp, none⟩,
 ⟨(some 6), [], [.c (.int .i64 2048)], [], [], .cp, none⟩,
 ⟨(some 4), [35], [.t 35], [], [], .mv, none⟩] [34, 35] [])
 (.seq
 (.reg [⟨(some 37), [], [.t 4], [], [], .cp, none⟩,
 ⟨(some 38), [], [.t 37, .c (.int .i64 240)], [], [], .bini .geq, none⟩,
 ⟨(some 39), [], [.t 38], [], [], .cp, none⟩,
 ⟨(some 40), [], [.t 4], [], [], .cp, some (39, true)⟩,
 ⟨(some 41), [], [.t 40, .c (.int .i64 245)], [], [], .bini .lss, some (39, true)⟩,
 ⟨(some 42), [], [.t 39, .t 41, .c (.bool false)], [], [], .pick, none⟩,
 ⟨(some 36), [42], [.t 42], [], [], .mv, none⟩] [37, 38, 39, 40, 41, 42] [])
 (.cond (.t 36)
 (.reg [⟨(some 43), [], [.t 4], [], [], .cp, none⟩,
 ⟨(some 44), [], [.t 43, .c (.int .i64 240)], [], [], .bini .sub, none⟩,
 ⟨(some 5), [], [.c (.int .i64 4)], [], [], .cp, none⟩,
 ⟨(some 6), [], [.c (.int .i64 65536)], [], [], .cp, none⟩,
 ⟨(some 4), [44], [.t 44], [], [], .mv, none⟩] [43, 44] [])
 (.seq
 (.reg [⟨(some 2), [], [.c (.int .i64 0)], [], [], .cp, none⟩,
 ⟨(some 3), [], [.c (.int .i64 0)], [], [], .cp, none⟩] [] [])
 .ret))))))))))
 (.seq
 (.seq
 (.reg [⟨(some 45), [], [.t 0], [], [], .cp, none⟩,
 ⟨(some 46), [], [.t 45], [], [], .len true, none⟩,
 ⟨(some 47), [], [.t 5], [], [], .cp, none⟩,
 ⟨(some 48), [], [.t 46, .t 47], [], [], .bini .lss, none⟩] [45, 46, 47] [])
 (.cond (.t 48)
 (.seq
 (.reg [⟨(some 2), [], [.c (.int .i64 0)], [], [], .cp, none⟩,
 ⟨(some 3), [], [.c (.int .i64 0)], [], [], .cp, none⟩] [] [])
 .ret)
 .skip))
 (.seq
 (.seq
 (.reg [⟨(some 7), [], [.c (.int .i64 1)], [], [], .cp, none⟩] [] [])
 (.block 1
 (.loop
 (.seq
 (.seq
 (.reg [⟨(some 49), [], [.t 7], [], [], .cp, none⟩,
 ⟨(some 50), [], [.t 5], [], [], .cp, none⟩,
 ⟨(some 51), [], [.t 49, .t 50], [], [], .bini .lss, none⟩] [49, 50] [])
 (.cond (.t 51)
 .skip
 (.exit 1)))
 (.seq
 (.block 2
 (.seq
 (.seq
 (.reg [⟨(some 54), [], [.t 0], [], [], .cp, none⟩,
 ⟨(some 55), [], [.t 7], [], [], .cp, none⟩,
 ⟨(some 56), [], [.t 54, .t 55], [], [], .indexs, none⟩,
 ⟨(some 57), [], [.t 56, .c (.int .u8 128)], [], [], .bini .lss, none⟩,
 ⟨(some 58), [], [.t 57], [], [], .cp, none⟩,
 ⟨(some 59), [], [.t 0], [], [], .cp, some (58, false)⟩,
 ⟨(some 60), [], [.t 7], [], [], .cp, some (58, false)⟩,
 ⟨(some 61), [], [.t 59, .t 60], [], [], .indexs, some (58, false)⟩,
 ⟨(some 62), [], [.t 61, .c (.int .u8 191)], [], [], .bini .gtr, some (58, false)⟩,
 ⟨(some 63), [], [.t 58, .c (.bool true), .t 62], [], [], .pick, none⟩] [54, 55, 56, 57, 58, 59, 60, 61, 62] [])
 (.cond (.t 63)
 (.seq
 (.reg [⟨(some 2), [], [.c (.int .i64 0)], [], [], .cp, none⟩,
 ⟨(some 3), [], [.c (.int .i64 0)], [], [], .cp, none⟩] [] [])
 .ret)
 .skip))
 (.reg [⟨(some 64), [], [.t 4], [], [], .cp, none⟩,
 ⟨(some 65), [], [.c (.int .i64 64), .t 64], [], [], .bini .mul, none⟩,
 ⟨(some 66), [], [.t 0], [], [], .cp, none⟩,
 ⟨(some 67), [], [.t 7], [], [], .cp, none⟩,
 ⟨(some 68), [], [.t 66, .t 67], [], [], .indexs, none⟩,
 ⟨(some 69), [], [.t 68], [], [], .conv .i64, none⟩,
 ⟨(some 70), [], [.t 65, .t 69], [], [], .bini .add, none⟩,
 ⟨(some 71), [], [.t 70, .c (.int .i64 128)], [], [], .bini .sub, none⟩,
 ⟨(some 4), [71], [.t 71], [], [], .mv, none⟩] [64, 65, 66, 67, 68, 69, 70, 71] [])))
 (.reg [⟨(some 52), [], [.t 7], [], [], .cp, none⟩,
 ⟨(some 53), [], [.t 52, .c (.int .i64 1)], [], [], .bini .add, none⟩,
 ⟨(some 7), [53], [.t 53], [], [], .mv, none⟩] [49, 50, 51, 52, 53, 54, 55, 56, 57, 58, 59, 60, 61, 62, 63, 64, 65, 66, 67, 68, 69, 70, 71] []))))))
 (.seq
 (.seq
 (.reg [⟨(some 72), [], [.t 4], [], [], .cp, none⟩,
 ⟨(some 73), [], [.t 6], [], [], .cp, none⟩,
 ⟨(some 74), [], [.t 72, .t 73], [], [], .bini .lss, none⟩,
 ⟨(some 75), [], [.t 74], [], [], .cp, none⟩,
 ⟨(some 76), [], [.t 4], [], [], .cp, some (75, false)⟩,
 ⟨(some 77), [], [.t 76, .c (.int .i64 1114111)], [], [], .bini .gtr, some (75, false)⟩,
 ⟨(some 78), [], [.t 75, .c (.bool true), .t 77], [], [], .pick, none⟩,
 ⟨(some 79), [], [.t 78], [], [], .cp, none⟩,
 ⟨(some 80), [], [.t 4], [], [], .cp, some (79, false)⟩,
 ⟨(some 81), [], [.t 80, .c (.int .i64 55296)], [], [], .bini .geq, some (79, false)⟩,
 ⟨(some 82), [], [.t 81], [], [], .cp, some (79, false)⟩,
 ⟨(some 83), [], [.t 4], [], [], .cp, some (82, true)⟩,
 ⟨(some 84), [], [.t 83, .c (.int .i64 57343)], [], [], .bini .leq, some (82, true)⟩,
 ⟨(some 85), [], [.t 82, .t 84, .c (.bool false)], [], [], .pick, some (79, false)⟩,
 ⟨(some 86), [], [.t 79, .c (.bool true), .t 85], [], [], .pick, none⟩] [72, 73, 74, 75, 76, 77, 78, 79, 80, 81, 82, 83, 84, 85] [])
 (.cond (.t 86)
 (.seq
 (.reg [⟨(some 2), [], [.c (.int .i64 0)], [], [], .cp, none⟩,
 ⟨(some 3), [], [.c (.int .i64 0)], [], [], .cp, none⟩] [] [])
 .ret)
 .skip))
 (.seq
 (.reg [⟨(some 87), [], [.t 4], [], [], .cp, none⟩,
 ⟨(some 88), [], [.t 5], [], [], .cp, none⟩,
 ⟨(some 2), [87], [.t 87], [], [], .mv, none⟩,
 ⟨(some 3), [88], [.t 88], [], [], .mv, none⟩] [87, 88] [])
 .ret))))))))) }

def H_pref03_may : Hints := [(1, { ops := [], kt := [3, 4, 5, 6, 7, 8, 9, 10, 11, 12, 13, 14, 15, 16], kb := [] })]
def c_pref03_may (F : Nat → FuncId) : AFun := { nparams := 1, ntmps := 17, results := [.tmp 2], body :=
 (.seq
 (.reg [⟨(some 2), [], [.c (.bool false)], [], [], .cp, none⟩] [] [])
 (.seq
 (.reg [⟨(some 3), [], [.t 0], [], [], .cp, none⟩,
 ⟨(some 4), [], [.t 3, .c (.int .i64 32)], [], [], .bini .geq, none⟩,
 ⟨(some 5), [], [.t 4], [], [], .cp, none⟩,
 ⟨(some 6), [], [.t 0], [], [], .cp, some (5, true)⟩,
 ⟨(some 7), [], [.t 6, .c (.int .i64 127)], [], [], .bini .lss, some (5, true)⟩,
 ⟨(some 8), [], [.t 7], [], [], .cp, some (5, true)⟩,
 ⟨(some 9), [], [.t 0], [], [], .cp, some (8, false)⟩,
 ⟨(some 10), [], [.t 9, .c (.int .i64 159)], [], [], .bini .gtr, some (8, false)⟩,
 ⟨(some 11), [], [.t 8, .c (.bool true), .t 10], [], [], .pick, some (5, true)⟩,
 ⟨(some 12), [], [.t 5, .t 11, .c (.bool false)], [], [], .pick, none⟩,
 ⟨(some 13), [], [.t 12], [], [], .cp, none⟩,
 ⟨(some 14), [], [.t 0], [], [], .cp, some (13, true)⟩,
 ⟨(some 15), [], [.t 14, .c (.int .i64 65533)], [], [], .bini .neq, some (13, true)⟩,
 ⟨(some 16), [], [.t 13, .t 15, .c (.bool false)], [], [], .pick, none⟩,
 ⟨(some 2), [16], [.t 16], [], [], .mv, none⟩] [3, 4, 5, 6, 7, 8, 9, 10, 11, 12, 13, 14, 15, 16] [])
 .ret)) }

end Go.AR
