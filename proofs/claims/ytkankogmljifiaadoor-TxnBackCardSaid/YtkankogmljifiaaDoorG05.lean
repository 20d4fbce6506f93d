import Derived.Test.YtkankogmljifiaaDoorG02
import Derived.Test.YtkankogmljifiaaDoorG03
set_option linter.all false
/-! Codes, printed by program. -/
namespace Go.AR
def H_pref04_Right : Hints := [(1, { ops := [(1, { mr := [1] }), (5, { mr := [1] }), (10, { mr := [1] }), (15, { mr := [1] })], kt := [3, 4, 5, 6, 7, 8, 9, 10, 11, 12, 13, 14, 15, 16, 17, 18, 19, 20], kb := [] })]
def c_pref04_Right (F : Nat → FuncId) : AFun := { nparams := 1, ntmps := 21, results := [.tmp 2], body :=
 (.seq
 (.reg [⟨(some 1), [], [.t 0], [], [1], .box, none⟩,
 ⟨(some 2), [], [.c (.bool false)], [], [], .cp, none⟩] [] [])
 (.seq
 (.reg [⟨(some 3), [], [.t 1], [], [], .faddr 0, none⟩,
 ⟨(some 4), [], [.t 3], [1], [], .load false 1, none⟩,
 ⟨(some 5), [], [.t 4, .c (.int .i64 0)], [], [], .bini .geq, none⟩,
 ⟨(some 6), [], [.t 5], [], [], .cp, none⟩,
 ⟨(some 7), [], [.t 1], [], [], .faddr 0, some (6, true)⟩,
 ⟨(some 8), [], [.t 7], [1], [], .load false 1, some (6, true)⟩,
 ⟨(some 9), [], [.t 8, .c (.int .i64 15)], [], [], .bini .leq, some (6, true)⟩,
 ⟨(some 10), [], [.t 6, .t 9, .c (.bool false)], [], [], .pick, none⟩,
 ⟨(some 11), [], [.t 10], [], [], .cp, none⟩,
 ⟨(some 12), [], [.t 1], [], [], .faddr 1, some (11, true)⟩,
 ⟨(some 13), [], [.t 12], [1], [], .load false 1, some (11, true)⟩,
 ⟨(some 14), [], [.t 13, .c (.int .i64 1)], [], [], .bini .geq, some (11, true)⟩,
 ⟨(some 15), [], [.t 11, .t 14, .c (.bool false)], [], [], .pick, none⟩,
 ⟨(some 16), [], [.t 15], [], [], .cp, none⟩,
 ⟨(some 17), [], [.t 1], [], [], .faddr 1, some (16, true)⟩,
 ⟨(some 18), [], [.t 17], [1], [], .load false 1, some (16, true)⟩,
 ⟨(some 19), [], [.t 18, .c (.int .i64 1048576)], [], [], .bini .leq, some (16, true)⟩,
 ⟨(some 20), [], [.t 16, .t 19, .c (.bool false)], [], [], .pick, none⟩,
 ⟨(some 2), [20], [.t 20], [], [], .mv, none⟩] [3, 4, 5, 6, 7, 8, 9, 10, 11, 12, 13, 14, 15, 16, 17, 18, 19, 20] [])
 .ret)) }

def H_dot_Right : Hints := [(1, { ops := [(1, { mr := [1] }), (5, { mr := [1] }), (10, { mr := [1] }), (15, { mr := [1] })], kt := [3, 4, 5, 6, 7, 8, 9, 10, 11, 12, 13, 14, 15, 16, 17, 18, 19, 20], kb := [] })]
def c_dot_Right (F : Nat → FuncId) : AFun := { nparams := 1, ntmps := 21, results := [.tmp 2], body :=
 (.seq
 (.reg [⟨(some 1), [], [.t 0], [], [1], .box, none⟩,
 ⟨(some 2), [], [.c (.bool false)], [], [], .cp, none⟩] [] [])
 (.seq
 (.reg [⟨(some 3), [], [.t 1], [], [], .faddr 0, none⟩,
 ⟨(some 4), [], [.t 3], [1], [], .load false 1, none⟩,
 ⟨(some 5), [], [.t 4, .c (.int .i64 0)], [], [], .bini .geq, none⟩,
 ⟨(some 6), [], [.t 5], [], [], .cp, none⟩,
 ⟨(some 7), [], [.t 1], [], [], .faddr 0, some (6, true)⟩,
 ⟨(some 8), [], [.t 7], [1], [], .load false 1, some (6, true)⟩,
 ⟨(some 9), [], [.t 8, .c (.int .i64 16)], [], [], .bini .lss, some (6, true)⟩,
 ⟨(some 10), [], [.t 6, .t 9, .c (.bool false)], [], [], .pick, none⟩,
 ⟨(some 11), [], [.t 10], [], [], .cp, none⟩,
 ⟨(some 12), [], [.t 1], [], [], .faddr 1, some (11, true)⟩,
 ⟨(some 13), [], [.t 12], [1], [], .load false 1, some (11, true)⟩,
 ⟨(some 14), [], [.t 13, .c (.int .i64 1)], [], [], .bini .geq, some (11, true)⟩,
 ⟨(some 15), [], [.t 11, .t 14, .c (.bool false)], [], [], .pick, none⟩,
 ⟨(some 16), [], [.t 15], [], [], .cp, none⟩,
 ⟨(some 17), [], [.t 1], [], [], .faddr 1, some (16, true)⟩,
 ⟨(some 18), [], [.t 17], [1], [], .load false 1, some (16, true)⟩,
 ⟨(some 19), [], [.t 18, .c (.int .i64 1048576)], [], [], .bini .leq, some (16, true)⟩,
 ⟨(some 20), [], [.t 16, .t 19, .c (.bool false)], [], [], .pick, none⟩,
 ⟨(some 2), [20], [.t 20], [], [], .mv, none⟩] [3, 4, 5, 6, 7, 8, 9, 10, 11, 12, 13, 14, 15, 16, 17, 18, 19, 20] [])
 .ret)) }

def H_pref04_Compare : Hints := [(1, { ops := [(1, { mr := [2] }), (3, { mr := [3] })], kt := [5, 6, 7, 8], kb := [] }),
 (2, { ops := [(1, { mr := [2] }), (3, { mr := [3] })], kt := [10, 11, 12, 13, 14], kb := [] }),
 (3, { ops := [(1, { mr := [2] }), (3, { mr := [3] })], kt := [15, 16, 17, 18, 19], kb := [] })]
def c_pref04_Compare (F : Nat → FuncId) : AFun := { nparams := 2, ntmps := 20, results := [.tmp 4], body :=
 (.seq
 (.reg [⟨(some 2), [], [.t 0], [], [2], .box, none⟩,
 ⟨(some 3), [], [.t 1], [], [3], .box, none⟩,
 ⟨(some 4), [], [.c (.int .i64 0)], [], [], .cp, none⟩] [] [])
 (.seq
 (.seq
 (.reg [⟨(some 5), [], [.t 2], [], [], .faddr 0, none⟩,
 ⟨(some 6), [], [.t 5], [2], [], .load false 1, none⟩,
 ⟨(some 7), [], [.t 3], [], [], .faddr 0, none⟩,
 ⟨(some 8), [], [.t 7], [3], [], .load false 1, none⟩,
 ⟨(some 9), [], [.t 6, .t 8], [], [], .bini .neq, none⟩] [5, 6, 7, 8] [])
 (.cond (.t 9)
 (.seq
 (.reg [⟨(some 10), [], [.t 2], [], [], .faddr 0, none⟩,
 ⟨(some 11), [], [.t 10], [2], [], .load false 1, none⟩,
 ⟨(some 12), [], [.t 3], [], [], .faddr 0, none⟩,
 ⟨(some 13), [], [.t 12], [3], [], .load false 1, none⟩,
 ⟨(some 14), [], [.c (.fn (F n_pref04_ints)), .t 11, .t 13], [], [], .call 0 false, none⟩,
 ⟨(some 4), [14], [.t 14], [], [], .mv, none⟩] [10, 11, 12, 13, 14] [])
 .ret)
 .skip))
 (.seq
 (.reg [⟨(some 15), [], [.t 2], [], [], .faddr 1, none⟩,
 ⟨(some 16), [], [.t 15], [2], [], .load false 1, none⟩,
 ⟨(some 17), [], [.t 3], [], [], .faddr 1, none⟩,
 ⟨(some 18), [], [.t 17], [3], [], .load false 1, none⟩,
 ⟨(some 19), [], [.c (.fn (F n_pref04_ints)), .t 16, .t 18], [], [], .call 0 false, none⟩,
 ⟨(some 4), [19], [.t 19], [], [], .mv, none⟩] [15, 16, 17, 18, 19] [])
 .ret))) }

def H_dot_Compare : Hints := [(1, { ops := [(1, { mr := [2] }), (3, { mr := [3] }), (6, { mr := [2] }), (8, { mr := [3] })], kt := [5, 6, 7, 8, 9, 10, 11, 12, 13, 14, 15, 16], kb := [] })]
def c_dot_Compare (F : Nat → FuncId) : AFun := { nparams := 2, ntmps := 17, results := [.tmp 4], body :=
 (.seq
 (.reg [⟨(some 2), [], [.t 0], [], [2], .box, none⟩,
 ⟨(some 3), [], [.t 1], [], [3], .box, none⟩,
 ⟨(some 4), [], [.c (.int .i64 0)], [], [], .cp, none⟩] [] [])
 (.seq
 (.reg [⟨(some 5), [], [.t 2], [], [], .faddr 0, none⟩,
 ⟨(some 6), [], [.t 5], [2], [], .load false 1, none⟩,
 ⟨(some 7), [], [.t 3], [], [], .faddr 0, none⟩,
 ⟨(some 8), [], [.t 7], [3], [], .load false 1, none⟩,
 ⟨(some 9), [], [.c (.fn (F n_cmp_Compare_int)), .t 6, .t 8], [], [], .call 0 false, none⟩,
 ⟨(some 10), [], [.t 2], [], [], .faddr 1, none⟩,
 ⟨(some 11), [], [.t 10], [2], [], .load false 1, none⟩,
 ⟨(some 12), [], [.t 3], [], [], .faddr 1, none⟩,
 ⟨(some 13), [], [.t 12], [3], [], .load false 1, none⟩,
 ⟨(some 14), [], [.c (.fn (F n_cmp_Compare_int)), .t 11, .t 13], [], [], .call 0 false, none⟩,
 ⟨(some 15), [], [.t 9, .t 14], [], [], .bslice 1 [.int .i64 0, .int .i64 0] [(0, 1), (1, 1)], none⟩,
 ⟨(some 16), [], [.c (.fn (F n_cmp_Or_int)), .t 15], [], [], .call 0 false, none⟩,
 ⟨(some 4), [16], [.t 16], [], [], .mv, none⟩] [5, 6, 7, 8, 9, 10, 11, 12, 13, 14, 15, 16] [])
 .ret)) }

def H_pref04_ints : Hints := [(1, { ops := [], kt := [5, 6], kb := [] }),
 (3, { ops := [], kt := [8, 9], kb := [] })]
def c_pref04_ints (F : Nat → FuncId) : AFun := { nparams := 2, ntmps := 11, results := [.tmp 4], body :=
 (.seq
 (.reg [⟨(some 4), [], [.c (.int .i64 0)], [], [], .cp, none⟩] [] [])
 (.seq
 (.seq
 (.reg [⟨(some 5), [], [.t 0], [], [], .cp, none⟩,
 ⟨(some 6), [], [.t 1], [], [], .cp, none⟩,
 ⟨(some 7), [], [.t 5, .t 6], [], [], .bini .lss, none⟩] [5, 6] [])
 (.cond (.t 7)
 (.seq
 (.reg [⟨(some 4), [], [.c (.int .i64 (-1))], [], [], .cp, none⟩] [] [])
 .ret)
 .skip))
 (.seq
 (.seq
 (.reg [⟨(some 8), [], [.t 0], [], [], .cp, none⟩,
 ⟨(some 9), [], [.t 1], [], [], .cp, none⟩,
 ⟨(some 10), [], [.t 8, .t 9], [], [], .bini .gtr, none⟩] [8, 9] [])
 (.cond (.t 10)
 (.seq
 (.reg [⟨(some 4), [], [.c (.int .i64 1)], [], [], .cp, none⟩] [] [])
 .ret)
 .skip))
 (.seq
 (.reg [⟨(some 4), [], [.c (.int .i64 0)], [], [], .cp, none⟩] [] [])
 .ret)))) }

def H_cmp_Or_int : Hints := [(4, { ops := [], kt := [10, 11], kb := [] }),
 (5, { ops := [], kt := [12, 13], kb := [] }),
 (6, { ops := [], kt := [15], kb := [] }),
 (7, { ops := [], kt := [5, 9, 10, 11, 12, 13, 14, 15, 16], kb := [] }),
 (8, { ops := [], kt := [17], kb := [] })]
def c_cmp_Or_int (F : Nat → FuncId) : AFun := { nparams := 1, ntmps := 18, results := [.tmp 2], body :=
 (.seq
 (.reg [⟨(some 2), [], [.c (.int .i64 0)], [], [], .cp, none⟩] [] [])
 (.seq
 (.reg [⟨(some 3), [], [.c (.int .i64 0)], [], [], .cp, none⟩] [] [])
 (.seq
 (.seq
 (.reg [⟨(some 6), [], [.t 0], [], [], .cp, none⟩,
 ⟨(some 7), [], [.t 6], [], [], .len false, none⟩,
 ⟨(some 8), [], [.c (.int .i64 0)], [], [], .cp, none⟩] [] [])
 (.block 0
 (.loop
 (.seq
 (.reg [⟨(some 9), [], [.t 8, .t 7], [], [], .bini .lss, none⟩] [] [])
 (.seq
 (.cond (.t 9)
 .skip
 (.exit 0))
 (.seq
 (.block 1
 (.seq
 (.reg [⟨(some 10), [], [.t 6, .t 8], [], [], .iaddr none 1, none⟩,
 ⟨(some 11), [], [.t 10], [], [], .load false 1, none⟩,
 ⟨(some 5), [11], [.t 11], [], [], .mv, none⟩] [10, 11] [])
 (.seq
 (.reg [⟨(some 12), [], [.t 5], [], [], .cp, none⟩,
 ⟨(some 13), [], [.t 3], [], [], .cp, none⟩,
 ⟨(some 14), [], [.t 12, .t 13], [], [], .bini .neq, none⟩] [12, 13] [])
 (.cond (.t 14)
 (.seq
 (.reg [⟨(some 15), [], [.t 5], [], [], .cp, none⟩,
 ⟨(some 2), [15], [.t 15], [], [], .mv, none⟩] [15] [])
 .ret)
 .skip))))
 (.reg [⟨(some 16), [], [.t 8, .c (.int .i64 1)], [], [], .bini .add, none⟩,
 ⟨(some 8), [], [.t 16], [], [], .cp, none⟩] [5, 9, 10, 11, 12, 13, 14, 15, 16] [])))))))
 (.seq
 (.reg [⟨(some 17), [], [.t 3], [], [], .cp, none⟩,
 ⟨(some 2), [17], [.t 17], [], [], .mv, none⟩] [17] [])
 .ret)))) }

def H_cmp_Compare_int : Hints := [(1, { ops := [], kt := [7, 8], kb := [] }),
 (2, { ops := [], kt := [9, 10], kb := [] }),
 (9, { ops := [], kt := [14, 15], kb := [] }),
 (11, { ops := [], kt := [17, 18], kb := [] })]
def c_cmp_Compare_int (F : Nat → FuncId) : AFun := { nparams := 2, ntmps := 20, results := [.tmp 4], body :=
 (.seq
 (.reg [⟨(some 4), [], [.c (.int .i64 0)], [], [], .cp, none⟩] [] [])
 (.seq
 (.reg [⟨(some 7), [], [.t 0], [], [], .cp, none⟩,
 ⟨(some 8), [], [.c (.fn (F n_cmp_isNaN_int)), .t 7], [], [], .call 0 false, none⟩,
 ⟨(some 5), [8], [.t 8], [], [], .mv, none⟩] [7, 8] [])
 (.seq
 (.reg [⟨(some 9), [], [.t 1], [], [], .cp, none⟩,
 ⟨(some 10), [], [.c (.fn (F n_cmp_isNaN_int)), .t 9], [], [], .call 0 false, none⟩,
 ⟨(some 6), [10], [.t 10], [], [], .mv, none⟩] [9, 10] [])
 (.seq
 (.seq
 (.reg [⟨(some 11), [], [.t 5], [], [], .cp, none⟩] [] [])
 (.cond (.t 11)
 (.seq
 (.seq
 (.reg [⟨(some 12), [], [.t 6], [], [], .cp, none⟩] [] [])
 (.cond (.t 12)
 (.seq
 (.reg [⟨(some 4), [], [.c (.int .i64 0)], [], [], .cp, none⟩] [] [])
 .ret)
 .skip))
 (.seq
 (.reg [⟨(some 4), [], [.c (.int .i64 (-1))], [], [], .cp, none⟩] [] [])
 .ret))
 .skip))
 (.seq
 (.seq
 (.reg [⟨(some 13), [], [.t 6], [], [], .cp, none⟩] [] [])
 (.cond (.t 13)
 (.seq
 (.reg [⟨(some 4), [], [.c (.int .i64 1)], [], [], .cp, none⟩] [] [])
 .ret)
 .skip))
 (.seq
 (.seq
 (.reg [⟨(some 14), [], [.t 0], [], [], .cp, none⟩,
 ⟨(some 15), [], [.t 1], [], [], .cp, none⟩,
 ⟨(some 16), [], [.t 14, .t 15], [], [], .bini .lss, none⟩] [14, 15] [])
 (.cond (.t 16)
 (.seq
 (.reg [⟨(some 4), [], [.c (.int .i64 (-1))], [], [], .cp, none⟩] [] [])
 .ret)
 .skip))
 (.seq
 (.seq
 (.reg [⟨(some 17), [], [.t 0], [], [], .cp, none⟩,
 ⟨(some 18), [], [.t 1], [], [], .cp, none⟩,
 ⟨(some 19), [], [.t 17, .t 18], [], [], .bini .gtr, none⟩] [17, 18] [])
 (.cond (.t 19)
 (.seq
 (.reg [⟨(some 4), [], [.c (.int .i64 1)], [], [], .cp, none⟩] [] [])
 .ret)
 .skip))
 (.seq
 (.reg [⟨(some 4), [], [.c (.int .i64 0)], [], [], .cp, none⟩] [] [])
 .ret)))))))) }

def H_cmp_isNaN_int : Hints := [(1, { ops := [], kt := [3, 4, 5], kb := [] })]
def c_cmp_isNaN_int (F : Nat → FuncId) : AFun := { nparams := 1, ntmps := 6, results := [.tmp 2], body :=
 (.seq
 (.reg [⟨(some 2), [], [.c (.bool false)], [], [], .cp, none⟩] [] [])
 (.seq
 (.reg [⟨(some 3), [], [.t 0], [], [], .cp, none⟩,
 ⟨(some 4), [], [.t 0], [], [], .cp, none⟩,
 ⟨(some 5), [], [.t 3, .t 4], [], [], .bini .neq, none⟩,
 ⟨(some 2), [5], [.t 5], [], [], .mv, none⟩] [3, 4, 5] [])
 .ret)) }

end Go.AR

/-! Codes, printed by program. -/
namespace Go.AR
def H_pref10_Short : Hints := [(1, { ops := [], kt := [4, 5], kb := [] }),
 (4, { ops := [], kt := [7, 8, 9], kb := [] }),
 (5, { ops := [], kt := [7, 8, 9, 10, 11, 12, 13, 14, 15, 16, 17, 18], kb := [] }),
 (6, { ops := [], kt := [13, 14, 15, 16, 17], kb := [] })]
def c_pref10_Short (F : Nat → FuncId) : AFun := { nparams := 1, ntmps := 19, results := [.tmp 2], body :=
 (.seq
 (.reg [⟨(some 2), [], [.c (.bool false)], [], [], .cp, none⟩] [] [])
 (.seq
 (.seq
 (.reg [⟨(some 4), [], [.t 0], [], [], .cp, none⟩,
 ⟨(some 5), [], [.t 4], [], [], .len false, none⟩,
 ⟨(some 6), [], [.t 5, .c (.int .i64 12)], [], [], .bini .gtr, none⟩] [4, 5] [])
 (.cond (.t 6)
 (.seq
 (.reg [⟨(some 2), [], [.c (.bool false)], [], [], .cp, none⟩] [] [])
 .ret)
 .skip))
 (.seq
 (.seq
 (.reg [⟨(some 3), [], [.c (.int .i64 0)], [], [], .cp, none⟩] [] [])
 (.block 0
 (.loop
 (.seq
 (.seq
 (.reg [⟨(some 7), [], [.t 3], [], [], .cp, none⟩,
 ⟨(some 8), [], [.t 0], [], [], .cp, none⟩,
 ⟨(some 9), [], [.t 8], [], [], .len false, none⟩,
 ⟨(some 10), [], [.t 7, .t 9], [], [], .bini .lss, none⟩] [7, 8, 9] [])
 (.cond (.t 10)
 .skip
 (.exit 0)))
 (.seq
 (.block 1
 (.seq
 (.reg [⟨(some 13), [], [.t 0], [], [], .cp, none⟩,
 ⟨(some 14), [], [.t 3], [], [], .cp, none⟩,
 ⟨(some 15), [], [.t 13, .t 14], [], [], .iaddr none 1, none⟩,
 ⟨(some 16), [], [.t 15], [], [], .load false 1, none⟩,
 ⟨(some 17), [], [.t 16], [], [], .len true, none⟩,
 ⟨(some 18), [], [.t 17, .c (.int .i64 120)], [], [], .bini .gtr, none⟩] [13, 14, 15, 16, 17] [])
 (.cond (.t 18)
 (.seq
 (.reg [⟨(some 2), [], [.c (.bool false)], [], [], .cp, none⟩] [] [])
 .ret)
 .skip)))
 (.reg [⟨(some 11), [], [.t 3], [], [], .cp, none⟩,
 ⟨(some 12), [], [.t 11, .c (.int .i64 1)], [], [], .bini .add, none⟩,
 ⟨(some 3), [12], [.t 12], [], [], .mv, none⟩] [7, 8, 9, 10, 11, 12, 13, 14, 15, 16, 17, 18] []))))))
 (.seq
 (.reg [⟨(some 2), [], [.c (.bool true)], [], [], .cp, none⟩] [] [])
 .ret)))) }

def H_path_Check : Hints := [(1, { ops := [], kt := [4, 5, 6], kb := [] }),
 (3, { ops := [], kt := [8, 9, 10], kb := [] }),
 (5, { ops := [], kt := [12, 13], kb := [] })]
def c_path_Check (F : Nat → FuncId) : AFun := { nparams := 1, ntmps := 14, results := [.tmp 2], body :=
 (.seq
 (.reg [⟨(some 2), [], [.c (.int .i64 0)], [], [], .cp, none⟩] [] [])
 (.seq
 (.block 0
 (.seq
 (.reg [⟨(some 4), [], [.t 0], [], [], .cp, none⟩,
 ⟨(some 5), [], [.t 4], [], [], .len false, none⟩,
 ⟨(some 6), [], [.t 5, .c (.int .i64 0)], [], [], .bini .eql, none⟩,
 ⟨(some 3), [6], [.t 6], [], [], .mv, none⟩] [4, 5, 6] [])
 (.cond (.t 3)
 (.seq
 (.reg [⟨(some 2), [], [.c (.int .i64 8)], [], [], .cp, none⟩] [] [])
 .ret)
 (.seq
 (.reg [⟨(some 8), [], [.t 0], [], [], .cp, none⟩,
 ⟨(some 9), [], [.t 8], [], [], .len false, none⟩,
 ⟨(some 10), [], [.t 9, .c (.int .i64 8)], [], [], .bini .gtr, none⟩,
 ⟨(some 7), [10], [.t 10], [], [], .mv, none⟩] [8, 9, 10] [])
 (.cond (.t 7)
 (.seq
 (.reg [⟨(some 2), [], [.c (.int .i64 9)], [], [], .cp, none⟩] [] [])
 .ret)
 (.seq
 (.reg [⟨(some 12), [], [.t 0], [], [], .cp, none⟩,
 ⟨(some 13), [], [.c (.fn (F n_slices_ContainsFunc_string_string)), .t 12, .c (.fn (F n_path_Check_1))], [], [], .call 0 false, none⟩,
 ⟨(some 11), [13], [.t 13], [], [], .mv, none⟩] [12, 13] [])
 (.cond (.t 11)
 (.seq
 (.reg [⟨(some 2), [], [.c (.int .i64 8)], [], [], .cp, none⟩] [] [])
 .ret)
 .skip)))))))
 (.seq
 (.reg [⟨(some 2), [], [.c (.int .i64 0)], [], [], .cp, none⟩] [] [])
 .ret))) }

def H_pref10_Check : Hints := [(1, { ops := [], kt := [4, 5], kb := [] }),
 (3, { ops := [], kt := [7, 8], kb := [] }),
 (6, { ops := [], kt := [10, 11, 12], kb := [] }),
 (7, { ops := [], kt := [10, 11, 12, 13, 14, 15, 16, 17, 18, 19, 20, 21], kb := [] }),
 (8, { ops := [], kt := [16, 17, 18, 19, 20], kb := [] })]
def c_pref10_Check (F : Nat → FuncId) : AFun := { nparams := 1, ntmps := 22, results := [.tmp 2], body :=
 (.seq
 (.reg [⟨(some 2), [], [.c (.int .i64 0)], [], [], .cp, none⟩] [] [])
 (.seq
 (.seq
 (.reg [⟨(some 4), [], [.t 0], [], [], .cp, none⟩,
 ⟨(some 5), [], [.t 4], [], [], .len false, none⟩,
 ⟨(some 6), [], [.t 5, .c (.int .i64 0)], [], [], .bini .eql, none⟩] [4, 5] [])
 (.cond (.t 6)
 (.seq
 (.reg [⟨(some 2), [], [.c (.int .i64 8)], [], [], .cp, none⟩] [] [])
 .ret)
 .skip))
 (.seq
 (.seq
 (.reg [⟨(some 7), [], [.t 0], [], [], .cp, none⟩,
 ⟨(some 8), [], [.t 7], [], [], .len false, none⟩,
 ⟨(some 9), [], [.t 8, .c (.int .i64 8)], [], [], .bini .gtr, none⟩] [7, 8] [])
 (.cond (.t 9)
 (.seq
 (.reg [⟨(some 2), [], [.c (.int .i64 9)], [], [], .cp, none⟩] [] [])
 .ret)
 .skip))
 (.seq
 (.seq
 (.reg [⟨(some 3), [], [.c (.int .i64 0)], [], [], .cp, none⟩] [] [])
 (.block 0
 (.loop
 (.seq
 (.seq
 (.reg [⟨(some 10), [], [.t 3], [], [], .cp, none⟩,
 ⟨(some 11), [], [.t 0], [], [], .cp, none⟩,
 ⟨(some 12), [], [.t 11], [], [], .len false, none⟩,
 ⟨(some 13), [], [.t 10, .t 12], [], [], .bini .lss, none⟩] [10, 11, 12] [])
 (.cond (.t 13)
 .skip
 (.exit 0)))
 (.seq
 (.block 1
 (.seq
 (.reg [⟨(some 16), [], [.t 0], [], [], .cp, none⟩,
 ⟨(some 17), [], [.t 3], [], [], .cp, none⟩,
 ⟨(some 18), [], [.t 16, .t 17], [], [], .iaddr none 1, none⟩,
 ⟨(some 19), [], [.t 18], [], [], .load false 1, none⟩,
 ⟨(some 20), [], [.c (.fn (F n_pref03_Right)), .t 19], [], [], .call 0 false, none⟩,
 ⟨(some 21), [], [.t 20], [], [], .not, none⟩] [16, 17, 18, 19, 20] [])
 (.cond (.t 21)
 (.seq
 (.reg [⟨(some 2), [], [.c (.int .i64 8)], [], [], .cp, none⟩] [] [])
 .ret)
 .skip)))
 (.reg [⟨(some 14), [], [.t 3], [], [], .cp, none⟩,
 ⟨(some 15), [], [.t 14, .c (.int .i64 1)], [], [], .bini .add, none⟩,
 ⟨(some 3), [15], [.t 15], [], [], .mv, none⟩] [10, 11, 12, 13, 14, 15, 16, 17, 18, 19, 20, 21] []))))))
 (.seq
 (.reg [⟨(some 2), [], [.c (.int .i64 0)], [], [], .cp, none⟩] [] [])
 .ret))))) }

def H_path_Code : Hints := [(1, { ops := [], kt := [6, 7, 8], kb := [] }),
 (4, { ops := [], kt := [13, 14], kb := [] }),
 (5, { ops := [], kt := [15, 16, 17, 18], kb := [] }),
 (6, { ops := [], kt := [5, 12, 13, 14, 15, 16, 17, 18, 19], kb := [] }),
 (7, { ops := [], kt := [20], kb := [] })]
def c_path_Code (F : Nat → FuncId) : AFun := { nparams := 1, ntmps := 21, results := [.tmp 2], body :=
 (.seq
 (.reg [⟨(some 2), [], [.c (.str [])], [], [], .cp, none⟩] [] [])
 (.seq
 (.reg [⟨(some 6), [], [.t 0], [], [], .cp, none⟩,
 ⟨(some 7), [], [.t 6], [], [], .len false, none⟩,
 ⟨(some 8), [], [.c (.fn (F n_pack_Int)), .t 7], [], [], .call 0 false, none⟩,
 ⟨(some 3), [8], [.t 8], [], [], .mv, none⟩] [6, 7, 8] [])
 (.seq
 (.seq
 (.reg [⟨(some 9), [], [.t 0], [], [], .cp, none⟩,
 ⟨(some 10), [], [.t 9], [], [], .len false, none⟩,
 ⟨(some 11), [], [.c (.int .i64 0)], [], [], .cp, none⟩] [] [])
 (.block 0
 (.loop
 (.seq
 (.reg [⟨(some 12), [], [.t 11, .t 10], [], [], .bini .lss, none⟩] [] [])
 (.seq
 (.cond (.t 12)
 .skip
 (.exit 0))
 (.seq
 (.block 1
 (.seq
 (.reg [⟨(some 13), [], [.t 9, .t 11], [], [], .iaddr none 1, none⟩,
 ⟨(some 14), [], [.t 13], [], [], .load false 1, none⟩,
 ⟨(some 5), [14], [.t 14], [], [], .mv, none⟩] [13, 14] [])
 (.reg [⟨(some 15), [], [.t 3], [], [], .cp, none⟩,
 ⟨(some 16), [], [.t 5], [], [], .cp, none⟩,
 ⟨(some 17), [], [.c (.fn (F n_pack_Text)), .t 16], [], [], .call 0 false, none⟩,
 ⟨(some 18), [], [.t 15, .t 17], [], [], .bins .add, none⟩,
 ⟨(some 3), [18], [.t 18], [], [], .mv, none⟩] [15, 16, 17, 18] [])))
 (.reg [⟨(some 19), [], [.t 11, .c (.int .i64 1)], [], [], .bini .add, none⟩,
 ⟨(some 11), [], [.t 19], [], [], .cp, none⟩] [5, 12, 13, 14, 15, 16, 17, 18, 19] [])))))))
 (.seq
 (.reg [⟨(some 20), [], [.t 3], [], [], .cp, none⟩,
 ⟨(some 2), [20], [.t 20], [], [], .mv, none⟩] [20] [])
 .ret)))) }

def H_pref10_Code : Hints := [(1, { ops := [], kt := [5, 6, 7], kb := [] }),
 (3, { ops := [], kt := [8, 9, 10], kb := [] }),
 (4, { ops := [], kt := [8, 9, 10, 11, 12, 13, 14, 15, 16, 17, 18, 19, 20], kb := [] }),
 (5, { ops := [], kt := [14, 15, 16, 17, 18, 19, 20], kb := [] }),
 (6, { ops := [], kt := [21], kb := [] })]
def c_pref10_Code (F : Nat → FuncId) : AFun := { nparams := 1, ntmps := 22, results := [.tmp 2], body :=
 (.seq
 (.reg [⟨(some 2), [], [.c (.str [])], [], [], .cp, none⟩] [] [])
 (.seq
 (.reg [⟨(some 5), [], [.t 0], [], [], .cp, none⟩,
 ⟨(some 6), [], [.t 5], [], [], .len false, none⟩,
 ⟨(some 7), [], [.c (.fn (F n_pref02_Int)), .t 6], [], [], .call 0 false, none⟩,
 ⟨(some 3), [7], [.t 7], [], [], .mv, none⟩] [5, 6, 7] [])
 (.seq
 (.seq
 (.reg [⟨(some 4), [], [.c (.int .i64 0)], [], [], .cp, none⟩] [] [])
 (.block 0
 (.loop
 (.seq
 (.seq
 (.reg [⟨(some 8), [], [.t 4], [], [], .cp, none⟩,
 ⟨(some 9), [], [.t 0], [], [], .cp, none⟩,
 ⟨(some 10), [], [.t 9], [], [], .len false, none⟩,
 ⟨(some 11), [], [.t 8, .t 10], [], [], .bini .lss, none⟩] [8, 9, 10] [])
 (.cond (.t 11)
 .skip
 (.exit 0)))
 (.seq
 (.block 1
 (.reg [⟨(some 14), [], [.t 3], [], [], .cp, none⟩,
 ⟨(some 15), [], [.t 0], [], [], .cp, none⟩,
 ⟨(some 16), [], [.t 4], [], [], .cp, none⟩,
 ⟨(some 17), [], [.t 15, .t 16], [], [], .iaddr none 1, none⟩,
 ⟨(some 18), [], [.t 17], [], [], .load false 1, none⟩,
 ⟨(some 19), [], [.c (.fn (F n_pref02_Text)), .t 18], [], [], .call 0 false, none⟩,
 ⟨(some 20), [], [.t 14, .t 19], [], [], .bins .add, none⟩,
 ⟨(some 3), [20], [.t 20], [], [], .mv, none⟩] [14, 15, 16, 17, 18, 19, 20] []))
 (.reg [⟨(some 12), [], [.t 4], [], [], .cp, none⟩,
 ⟨(some 13), [], [.t 12, .c (.int .i64 1)], [], [], .bini .add, none⟩,
 ⟨(some 4), [13], [.t 13], [], [], .mv, none⟩] [8, 9, 10, 11, 12, 13, 14, 15, 16, 17, 18, 19, 20] []))))))
 (.seq
 (.reg [⟨(some 21), [], [.t 3], [], [], .cp, none⟩,
 ⟨(some 2), [21], [.t 21], [], [], .mv, none⟩] [21] [])
 .ret)))) }

def H_path_Read : Hints := [(0, { ops := [(0, { x := 4 })], kt := [], kb := [] }),
 (2, { ops := [(1, { mw := [0], nref := 1 })], kt := [4], kb := [] }),
 (4, { ops := [(0, { take := true }), (2, { mw := [0], nref := 1 })], kt := [8, 9, 10, 11, 12], kb := [] }),
 (5, { ops := [], kt := [7, 8, 9, 10, 11, 12, 13], kb := [] }),
 (6, { ops := [(1, { mw := [0], nref := 1 })], kt := [14, 15], kb := [] }),
 (7, { ops := [(3, { mw := [0], nref := 1 })], kt := [17, 18, 19, 20], kb := [] }),
 (8, { ops := [(1, { mw := [0], nref := 1 })], kt := [21, 22], kb := [] }),
 (9, { ops := [(0, { x := 4 })], kt := [], kb := [] }),
 (10, { ops := [], kt := [24], kb := [] })]
def c_path_Read (F : Nat → FuncId) : AFun := { nparams := 1, ntmps := 25, results := [.tmp 2], body :=
 (.seq
 (.reg [⟨(some 2), [], [.c (.sl 1 [])], [], [], .cp, none⟩] [] [])
 (.seq
 (.reg [⟨(some 3), [], [], [], [], .nils 1, none⟩] [] [])
 (.seq
 (.seq
 (.reg [⟨(some 4), [], [.t 0], [], [], .cp, none⟩,
 ⟨(some 5), [], [.c (.fn (F n_pack_Reader_Many)), .t 4, .c (.int .i64 8)], [], [0], .call 1 false, none⟩,
 ⟨(some 6), [], [.c (.int .i64 0)], [], [], .cp, none⟩] [4] [])
 (.block 0
 (.loop
 (.seq
 (.reg [⟨(some 7), [], [.t 6, .t 5], [], [], .bini .lss, none⟩] [] [])
 (.seq
 (.cond (.t 7)
 .skip
 (.exit 0))
 (.seq
 (.block 1
 (.reg [⟨(some 8), [3], [.t 3], [], [], .mv, none⟩,
 ⟨(some 9), [], [.t 0], [], [], .cp, none⟩,
 ⟨(some 10), [], [.c (.fn (F n_pack_Reader_Text)), .t 9], [], [0], .call 1 false, none⟩,
 ⟨(some 11), [], [.t 10], [], [], .bslice 1 [.str []] [(0, 1)], none⟩,
 ⟨(some 12), [8], [.t 8, .t 11], [], [], .append 1 16, none⟩,
 ⟨(some 3), [12], [.t 12], [], [], .mv, none⟩] [8, 9, 10, 11, 12] []))
 (.reg [⟨(some 13), [], [.t 6, .c (.int .i64 1)], [], [], .bini .add, none⟩,
 ⟨(some 6), [], [.t 13], [], [], .cp, none⟩] [7, 8, 9, 10, 11, 12, 13] [])))))))
 (.seq
 (.seq
 (.reg [⟨(some 14), [], [.t 0], [], [], .cp, none⟩,
 ⟨(some 15), [], [.c (.fn (F n_pack_Reader_Fault)), .t 14], [], [0], .call 1 false, none⟩,
 ⟨(some 16), [], [.t 15, .c (.int .i64 0)], [], [], .bini .eql, none⟩] [14, 15] [])
 (.cond (.t 16)
 (.reg [⟨(some 17), [], [.t 0], [], [], .cp, none⟩,
 ⟨(some 18), [], [.t 3], [], [], .cp, none⟩,
 ⟨(some 19), [], [.c (.fn (F n_path_Check)), .t 18], [], [], .call 0 false, none⟩,
 ⟨(some 20), [], [.c (.fn (F n_pack_Reader_Fail)), .t 17, .t 19], [], [0], .call 1 false, none⟩] [17, 18, 19, 20] [])
 .skip))
 (.seq
 (.seq
 (.reg [⟨(some 21), [], [.t 0], [], [], .cp, none⟩,
 ⟨(some 22), [], [.c (.fn (F n_pack_Reader_Fault)), .t 21], [], [0], .call 1 false, none⟩,
 ⟨(some 23), [], [.t 22, .c (.int .i64 0)], [], [], .bini .neq, none⟩] [21, 22] [])
 (.cond (.t 23)
 (.seq
 (.reg [⟨(some 2), [], [.c (.sl 1 [])], [], [], .cp, none⟩] [] [])
 .ret)
 .skip))
 (.seq
 (.reg [⟨(some 24), [], [.t 3], [], [], .cp, none⟩,
 ⟨(some 2), [24], [.t 24], [], [], .mv, none⟩] [24] [])
 .ret)))))) }

def H_slices_Equal_string_string : Hints := [(1, { ops := [], kt := [6, 7, 8, 9], kb := [] }),
 (3, { ops := [], kt := [11], kb := [] }),
 (5, { ops := [], kt := [15], kb := [] }),
 (6, { ops := [], kt := [16, 17, 18, 19, 20, 21, 22, 23], kb := [] }),
 (8, { ops := [], kt := [5, 14, 15, 16, 17, 18, 19, 20, 21, 22, 23, 24, 25], kb := [] })]
def c_slices_Equal_string_string (F : Nat → FuncId) : AFun := { nparams := 2, ntmps := 26, results := [.tmp 4], body :=
 (.seq
 (.reg [⟨(some 4), [], [.c (.bool false)], [], [], .cp, none⟩] [] [])
 (.seq
 (.seq
 (.reg [⟨(some 6), [], [.t 0], [], [], .cp, none⟩,
 ⟨(some 7), [], [.t 6], [], [], .len false, none⟩,
 ⟨(some 8), [], [.t 1], [], [], .cp, none⟩,
 ⟨(some 9), [], [.t 8], [], [], .len false, none⟩,
 ⟨(some 10), [], [.t 7, .t 9], [], [], .bini .neq, none⟩] [6, 7, 8, 9] [])
 (.cond (.t 10)
 (.seq
 (.reg [⟨(some 4), [], [.c (.bool false)], [], [], .cp, none⟩] [] [])
 .ret)
 .skip))
 (.seq
 (.seq
 (.reg [⟨(some 11), [], [.t 0], [], [], .cp, none⟩,
 ⟨(some 12), [], [.t 11], [], [], .len false, none⟩,
 ⟨(some 13), [], [.c (.int .i64 0)], [], [], .cp, none⟩] [11] [])
 (.block 0
 (.loop
 (.seq
 (.reg [⟨(some 14), [], [.t 13, .t 12], [], [], .bini .lss, none⟩] [] [])
 (.seq
 (.cond (.t 14)
 .skip
 (.exit 0))
 (.seq
 (.block 1
 (.seq
 (.reg [⟨(some 15), [], [.t 13], [], [], .cp, none⟩,
 ⟨(some 5), [15], [.t 15], [], [], .mv, none⟩] [15] [])
 (.seq
 (.reg [⟨(some 16), [], [.t 0], [], [], .cp, none⟩,
 ⟨(some 17), [], [.t 5], [], [], .cp, none⟩,
 ⟨(some 18), [], [.t 16, .t 17], [], [], .iaddr none 1, none⟩,
 ⟨(some 19), [], [.t 18], [], [], .load false 1, none⟩,
 ⟨(some 20), [], [.t 1], [], [], .cp, none⟩,
 ⟨(some 21), [], [.t 5], [], [], .cp, none⟩,
 ⟨(some 22), [], [.t 20, .t 21], [], [], .iaddr none 1, none⟩,
 ⟨(some 23), [], [.t 22], [], [], .load false 1, none⟩,
 ⟨(some 24), [], [.t 19, .t 23], [], [], .bins .neq, none⟩] [16, 17, 18, 19, 20, 21, 22, 23] [])
 (.cond (.t 24)
 (.seq
 (.reg [⟨(some 4), [], [.c (.bool false)], [], [], .cp, none⟩] [] [])
 .ret)
 .skip))))
 (.reg [⟨(some 25), [], [.t 13, .c (.int .i64 1)], [], [], .bini .add, none⟩,
 ⟨(some 13), [], [.t 25], [], [], .cp, none⟩] [5, 14, 15, 16, 17, 18, 19, 20, 21, 22, 23, 24, 25] [])))))))
 (.seq
 (.reg [⟨(some 4), [], [.c (.bool true)], [], [], .cp, none⟩] [] [])
 .ret)))) }

def H_slices_ContainsFunc_string_string : Hints := [(1, { ops := [], kt := [5, 6, 7, 8], kb := [] })]
def c_slices_ContainsFunc_string_string (F : Nat → FuncId) : AFun := { nparams := 2, ntmps := 9, results := [.tmp 4], body :=
 (.seq
 (.reg [⟨(some 4), [], [.c (.bool false)], [], [], .cp, none⟩] [] [])
 (.seq
 (.reg [⟨(some 5), [], [.t 0], [], [], .cp, none⟩,
 ⟨(some 6), [], [.t 1], [], [], .cp, none⟩,
 ⟨(some 7), [], [.c (.fn (F n_slices_IndexFunc_string_string)), .t 5, .t 6], [], [], .call 0 false, none⟩,
 ⟨(some 8), [], [.t 7, .c (.int .i64 0)], [], [], .bini .geq, none⟩,
 ⟨(some 4), [8], [.t 8], [], [], .mv, none⟩] [5, 6, 7, 8] [])
 .ret)) }

def H_path_Check_1 : Hints := [(1, { ops := [], kt := [3, 4, 5], kb := [] })]
def c_path_Check_1 (F : Nat → FuncId) : AFun := { nparams := 1, ntmps := 6, results := [.tmp 2], body :=
 (.seq
 (.reg [⟨(some 2), [], [.c (.bool false)], [], [], .cp, none⟩] [] [])
 (.seq
 (.reg [⟨(some 3), [], [.t 0], [], [], .cp, none⟩,
 ⟨(some 4), [], [.c (.fn (F n_name_Right)), .t 3], [], [], .call 0 false, none⟩,
 ⟨(some 5), [], [.t 4], [], [], .not, none⟩,
 ⟨(some 2), [5], [.t 5], [], [], .mv, none⟩] [3, 4, 5] [])
 .ret)) }

def H_slices_IndexFunc_string_string : Hints := [(1, { ops := [], kt := [6], kb := [] }),
 (3, { ops := [], kt := [10], kb := [] }),
 (4, { ops := [], kt := [11, 12, 13, 14, 15], kb := [] }),
 (5, { ops := [], kt := [17], kb := [] }),
 (6, { ops := [], kt := [5, 9, 10, 11, 12, 13, 14, 15, 16, 17, 18], kb := [] })]
def c_slices_IndexFunc_string_string (F : Nat → FuncId) : AFun := { nparams := 2, ntmps := 19, results := [.tmp 4], body :=
 (.seq
 (.reg [⟨(some 4), [], [.c (.int .i64 0)], [], [], .cp, none⟩] [] [])
 (.seq
 (.seq
 (.reg [⟨(some 6), [], [.t 0], [], [], .cp, none⟩,
 ⟨(some 7), [], [.t 6], [], [], .len false, none⟩,
 ⟨(some 8), [], [.c (.int .i64 0)], [], [], .cp, none⟩] [6] [])
 (.block 0
 (.loop
 (.seq
 (.reg [⟨(some 9), [], [.t 8, .t 7], [], [], .bini .lss, none⟩] [] [])
 (.seq
 (.cond (.t 9)
 .skip
 (.exit 0))
 (.seq
 (.block 1
 (.seq
 (.reg [⟨(some 10), [], [.t 8], [], [], .cp, none⟩,
 ⟨(some 5), [10], [.t 10], [], [], .mv, none⟩] [10] [])
 (.seq
 (.reg [⟨(some 11), [], [.t 1], [], [], .cp, none⟩,
 ⟨(some 12), [], [.t 0], [], [], .cp, none⟩,
 ⟨(some 13), [], [.t 5], [], [], .cp, none⟩,
 ⟨(some 14), [], [.t 12, .t 13], [], [], .iaddr none 1, none⟩,
 ⟨(some 15), [], [.t 14], [], [], .load false 1, none⟩,
 ⟨(some 16), [], [.t 11, .t 15], [], [], .call 0 false, none⟩] [11, 12, 13, 14, 15] [])
 (.cond (.t 16)
 (.seq
 (.reg [⟨(some 17), [], [.t 5], [], [], .cp, none⟩,
 ⟨(some 4), [17], [.t 17], [], [], .mv, none⟩] [17] [])
 .ret)
 .skip))))
 (.reg [⟨(some 18), [], [.t 8, .c (.int .i64 1)], [], [], .bini .add, none⟩,
 ⟨(some 8), [], [.t 18], [], [], .cp, none⟩] [5, 9, 10, 11, 12, 13, 14, 15, 16, 17, 18] [])))))))
 (.seq
 (.reg [⟨(some 4), [], [.c (.int .i64 (-1))], [], [], .cp, none⟩] [] [])
 .ret))) }

end Go.AR

/-! Codes, printed by program. -/
namespace Go.AR
def H_pref03_Same : Hints := [(1, { ops := [], kt := [6, 7, 8, 9], kb := [] }),
 (4, { ops := [], kt := [11, 12, 13], kb := [] }),
 (5, { ops := [], kt := [11, 12, 13, 14, 15, 16, 17, 18, 19, 20, 21, 22, 23, 24, 25], kb := [] }),
 (6, { ops := [], kt := [17, 18, 19, 20, 21, 22, 23, 24], kb := [] })]
def c_pref03_Same (F : Nat → FuncId) : AFun := { nparams := 2, ntmps := 26, results := [.tmp 4], body :=
 (.seq
 (.reg [⟨(some 4), [], [.c (.bool false)], [], [], .cp, none⟩] [] [])
 (.seq
 (.seq
 (.reg [⟨(some 6), [], [.t 0], [], [], .cp, none⟩,
 ⟨(some 7), [], [.t 6], [], [], .len false, none⟩,
 ⟨(some 8), [], [.t 1], [], [], .cp, none⟩,
 ⟨(some 9), [], [.t 8], [], [], .len false, none⟩,
 ⟨(some 10), [], [.t 7, .t 9], [], [], .bini .neq, none⟩] [6, 7, 8, 9] [])
 (.cond (.t 10)
 (.seq
 (.reg [⟨(some 4), [], [.c (.bool false)], [], [], .cp, none⟩] [] [])
 .ret)
 .skip))
 (.seq
 (.seq
 (.reg [⟨(some 5), [], [.c (.int .i64 0)], [], [], .cp, none⟩] [] [])
 (.block 0
 (.loop
 (.seq
 (.seq
 (.reg [⟨(some 11), [], [.t 5], [], [], .cp, none⟩,
 ⟨(some 12), [], [.t 0], [], [], .cp, none⟩,
 ⟨(some 13), [], [.t 12], [], [], .len false, none⟩,
 ⟨(some 14), [], [.t 11, .t 13], [], [], .bini .lss, none⟩] [11, 12, 13] [])
 (.cond (.t 14)
 .skip
 (.exit 0)))
 (.seq
 (.block 1
 (.seq
 (.reg [⟨(some 17), [], [.t 0], [], [], .cp, none⟩,
 ⟨(some 18), [], [.t 5], [], [], .cp, none⟩,
 ⟨(some 19), [], [.t 17, .t 18], [], [], .iaddr none 1, none⟩,
 ⟨(some 20), [], [.t 19], [], [], .load false 1, none⟩,
 ⟨(some 21), [], [.t 1], [], [], .cp, none⟩,
 ⟨(some 22), [], [.t 5], [], [], .cp, none⟩,
 ⟨(some 23), [], [.t 21, .t 22], [], [], .iaddr none 1, none⟩,
 ⟨(some 24), [], [.t 23], [], [], .load false 1, none⟩,
 ⟨(some 25), [], [.t 20, .t 24], [], [], .bins .neq, none⟩] [17, 18, 19, 20, 21, 22, 23, 24] [])
 (.cond (.t 25)
 (.seq
 (.reg [⟨(some 4), [], [.c (.bool false)], [], [], .cp, none⟩] [] [])
 .ret)
 .skip)))
 (.reg [⟨(some 15), [], [.t 5], [], [], .cp, none⟩,
 ⟨(some 16), [], [.t 15, .c (.int .i64 1)], [], [], .bini .add, none⟩,
 ⟨(some 5), [16], [.t 16], [], [], .mv, none⟩] [11, 12, 13, 14, 15, 16, 17, 18, 19, 20, 21, 22, 23, 24, 25] []))))))
 (.seq
 (.reg [⟨(some 4), [], [.c (.bool true)], [], [], .cp, none⟩] [] [])
 .ret)))) }

def H_name_Runes : Hints := [(2, { ops := [], kt := [9], kb := [] }),
 (3, { ops := [(0, { mw := [10] })], kt := [], kb := [] }),
 (4, { ops := [], kt := [13, 14], kb := [] }),
 (5, { ops := [], kt := [15], kb := [] }),
 (6, { ops := [], kt := [7, 17, 18, 19, 20, 21, 22, 23], kb := [] }),
 (7, { ops := [], kt := [24], kb := [] }),
 (9, { ops := [(0, { take := true })], kt := [26, 27, 28, 29], kb := [] }),
 (10, { ops := [], kt := [30], kb := [] }),
 (1000001, { ops := [], kt := [5, 6, 7, 8, 11, 12, 13, 14, 15, 16, 17, 18, 19, 20, 21, 22, 23, 24, 25, 26, 27, 28, 29], kb := [] })]
def c_name_Runes (F : Nat → FuncId) : AFun := { nparams := 1, ntmps := 31, results := [.tmp 2, .tmp 3], body :=
 (.seq
 (.reg [⟨(some 2), [], [], [], [], .nils 1, none⟩,
 ⟨(some 3), [], [.c (.bool false)], [], [], .cp, none⟩] [] [])
 (.seq
 (.reg [⟨(some 4), [], [], [], [], .nils 1, none⟩] [] [])
 (.seq
 (.seq
 (.reg [⟨(some 9), [], [.t 0], [], [], .cp, none⟩,
 ⟨(some 10), [], [.t 9], [], [10], .range, none⟩] [9] [])
 (.block 0
 (.loop
 (.seq
 (.reg [⟨(some 11), [], [.t 10], [], [10], .next, none⟩,
 ⟨(some 12), [], [.t 11], [], [], .extract 0, none⟩] [] [])
 (.seq
 (.cond (.t 12)
 .skip
 (.exit 0))
 (.seq
 (.block 1
 (.seq
 (.reg [⟨(some 13), [], [.t 11], [], [], .extract 1, none⟩,
 ⟨(some 14), [], [.t 11], [], [], .extract 2, none⟩,
 ⟨(some 5), [13], [.t 13], [], [], .mv, none⟩,
 ⟨(some 6), [14], [.t 14], [], [], .mv, none⟩] [13, 14] [])
 (.seq
 (.seq
 (.reg [⟨(some 15), [], [.t 6], [], [], .cp, none⟩,
 ⟨(some 16), [], [.t 15, .c (.int .i32 65533)], [], [], .bini .eql, none⟩] [15] [])
 (.cond (.t 16)
 (.seq
 (.reg [⟨(some 18), [], [.t 0], [], [], .cp, none⟩,
 ⟨(some 19), [], [.t 5], [], [], .cp, none⟩,
 ⟨(some 20), [], [.t 18, .t 19], [], [], .slices true false, none⟩,
 ⟨(some 21), [], [.c (.fn (F n_unicode_utf8_DecodeRuneInString)), .t 20], [], [], .call 0 false, none⟩,
 ⟨(some 17), [], [.t 21], [], [], .cp, none⟩,
 ⟨(some 22), [], [.t 17], [], [], .extract 0, none⟩,
 ⟨(some 23), [], [.t 17], [], [], .extract 1, none⟩,
 ⟨(some 7), [22], [.t 22], [], [], .mv, none⟩,
 ⟨(some 8), [23], [.t 23], [], [], .mv, none⟩] [7, 17, 18, 19, 20, 21, 22, 23] [])
 (.seq
 (.reg [⟨(some 24), [], [.t 8], [], [], .cp, none⟩,
 ⟨(some 25), [], [.t 24, .c (.int .i64 1)], [], [], .bini .leq, none⟩] [24] [])
 (.cond (.t 25)
 (.seq
 (.reg [⟨(some 2), [], [], [], [], .nils 1, none⟩,
 ⟨(some 3), [], [.c (.bool false)], [], [], .cp, none⟩] [] [])
 .ret)
 .skip)))
 .skip))
 (.reg [⟨(some 26), [4], [.t 4], [], [], .mv, none⟩,
 ⟨(some 27), [], [.t 6], [], [], .cp, none⟩,
 ⟨(some 28), [], [.t 27], [], [], .bslice 1 [.int .i32 0] [(0, 1)], none⟩,
 ⟨(some 29), [26], [.t 26, .t 28], [], [], .append 1 4, none⟩,
 ⟨(some 4), [29], [.t 29], [], [], .mv, none⟩] [26, 27, 28, 29] []))))
 (.reg [] [5, 6, 7, 8, 11, 12, 13, 14, 15, 16, 17, 18, 19, 20, 21, 22, 23, 24, 25, 26, 27, 28, 29] [])))))))
 (.seq
 (.reg [⟨(some 30), [], [.t 4], [], [], .cp, none⟩,
 ⟨(some 2), [30], [.t 30], [], [], .mv, none⟩,
 ⟨(some 3), [], [.c (.bool true)], [], [], .cp, none⟩] [30] [])
 .ret)))) }

def H_name_Right : Hints := [(1, { ops := [], kt := [7, 8, 9, 10, 11], kb := [] }),
 (2, { ops := [], kt := [12, 13, 14, 15, 16, 17, 18, 19, 20, 21, 22], kb := [] }),
 (6, { ops := [], kt := [28, 29], kb := [] }),
 (7, { ops := [], kt := [30, 31], kb := [] }),
 (9, { ops := [], kt := [6, 27, 28, 29, 30, 31, 32, 33], kb := [] })]
def c_name_Right (F : Nat → FuncId) : AFun := { nparams := 1, ntmps := 34, results := [.tmp 2], body :=
 (.seq
 (.reg [⟨(some 2), [], [.c (.bool false)], [], [], .cp, none⟩] [] [])
 (.seq
 (.reg [⟨(some 8), [], [.t 0], [], [], .cp, none⟩,
 ⟨(some 9), [], [.c (.fn (F n_name_Runes)), .t 8], [], [], .call 0 false, none⟩,
 ⟨(some 7), [], [.t 9], [], [], .cp, none⟩,
 ⟨(some 10), [], [.t 7], [], [], .extract 0, none⟩,
 ⟨(some 11), [], [.t 7], [], [], .extract 1, none⟩,
 ⟨(some 3), [10], [.t 10], [], [], .mv, none⟩,
 ⟨(some 4), [11], [.t 11], [], [], .mv, none⟩] [7, 8, 9, 10, 11] [])
 (.seq
 (.seq
 (.reg [⟨(some 12), [], [.t 4], [], [], .cp, none⟩,
 ⟨(some 13), [], [.t 12], [], [], .not, none⟩,
 ⟨(some 14), [], [.t 13], [], [], .cp, none⟩,
 ⟨(some 15), [], [.t 3], [], [], .cp, some (14, false)⟩,
 ⟨(some 16), [], [.t 15], [], [], .len false, some (14, false)⟩,
 ⟨(some 17), [], [.t 16, .c (.int .i64 0)], [], [], .bini .eql, some (14, false)⟩,
 ⟨(some 18), [], [.t 14, .c (.bool true), .t 17], [], [], .pick, none⟩,
 ⟨(some 19), [], [.t 18], [], [], .cp, none⟩,
 ⟨(some 20), [], [.t 3], [], [], .cp, some (19, false)⟩,
 ⟨(some 21), [], [.t 20], [], [], .len false, some (19, false)⟩,
 ⟨(some 22), [], [.t 21, .c (.int .i64 24)], [], [], .bini .gtr, some (19, false)⟩,
 ⟨(some 23), [], [.t 19, .c (.bool true), .t 22], [], [], .pick, none⟩] [12, 13, 14, 15, 16, 17, 18, 19, 20, 21, 22] [])
 (.cond (.t 23)
 (.seq
 (.reg [⟨(some 2), [], [.c (.bool false)], [], [], .cp, none⟩] [] [])
 .ret)
 .skip))
 (.seq
 (.seq
 (.reg [⟨(some 24), [], [.t 3], [], [], .cp, none⟩,
 ⟨(some 25), [], [.t 24], [], [], .len false, none⟩,
 ⟨(some 26), [], [.c (.int .i64 0)], [], [], .cp, none⟩] [] [])
 (.block 0
 (.loop
 (.seq
 (.reg [⟨(some 27), [], [.t 26, .t 25], [], [], .bini .lss, none⟩] [] [])
 (.seq
 (.cond (.t 27)
 .skip
 (.exit 0))
 (.seq
 (.block 1
 (.seq
 (.reg [⟨(some 28), [], [.t 24, .t 26], [], [], .iaddr none 1, none⟩,
 ⟨(some 29), [], [.t 28], [], [], .load false 1, none⟩,
 ⟨(some 6), [29], [.t 29], [], [], .mv, none⟩] [28, 29] [])
 (.seq
 (.reg [⟨(some 30), [], [.t 6], [], [], .cp, none⟩,
 ⟨(some 31), [], [.c (.fn (F n_name_may)), .t 30], [], [], .call 0 false, none⟩,
 ⟨(some 32), [], [.t 31], [], [], .not, none⟩] [30, 31] [])
 (.cond (.t 32)
 (.seq
 (.reg [⟨(some 2), [], [.c (.bool false)], [], [], .cp, none⟩] [] [])
 .ret)
 .skip))))
 (.reg [⟨(some 33), [], [.t 26, .c (.int .i64 1)], [], [], .bini .add, none⟩,
 ⟨(some 26), [], [.t 33], [], [], .cp, none⟩] [6, 27, 28, 29, 30, 31, 32, 33] [])))))))
 (.seq
 (.reg [⟨(some 2), [], [.c (.bool true)], [], [], .cp, none⟩] [] [])
 .ret))))) }

def H_name_may : Hints := [(1, { ops := [], kt := [4, 5], kb := [] }),
 (2, { ops := [], kt := [6, 7, 8, 9, 10, 11], kb := [] }),
 (4, { ops := [], kt := [12, 13], kb := [] })]
def c_name_may (F : Nat → FuncId) : AFun := { nparams := 1, ntmps := 14, results := [.tmp 2], body :=
 (.seq
 (.reg [⟨(some 2), [], [.c (.bool false)], [], [], .cp, none⟩] [] [])
 (.seq
 (.block 0
 (.seq
 (.seq
 (.reg [⟨(some 4), [], [.t 0], [], [], .cp, none⟩,
 ⟨(some 5), [], [.t 4, .c (.int .i32 32)], [], [], .bini .lss, none⟩,
 ⟨(some 3), [5], [.t 5], [], [], .mv, none⟩] [4, 5] [])
 (.cond (.t 3)
 .skip
 (.reg [⟨(some 6), [], [.t 0], [], [], .cp, none⟩,
 ⟨(some 7), [], [.t 6, .c (.int .i32 127)], [], [], .bini .geq, none⟩,
 ⟨(some 8), [], [.t 7], [], [], .cp, none⟩,
 ⟨(some 9), [], [.t 0], [], [], .cp, some (8, true)⟩,
 ⟨(some 10), [], [.t 9, .c (.int .i32 160)], [], [], .bini .lss, some (8, true)⟩,
 ⟨(some 11), [], [.t 8, .t 10, .c (.bool false)], [], [], .pick, none⟩,
 ⟨(some 3), [11], [.t 11], [], [], .mv, none⟩] [6, 7, 8, 9, 10, 11] [])))
 (.cond (.t 3)
 (.seq
 (.reg [⟨(some 2), [], [.c (.bool false)], [], [], .cp, none⟩] [] [])
 .ret)
 .skip)))
 (.seq
 (.reg [⟨(some 12), [], [.t 0], [], [], .cp, none⟩,
 ⟨(some 13), [], [.t 12, .c (.int .i32 65533)], [], [], .bini .neq, none⟩,
 ⟨(some 2), [13], [.t 13], [], [], .mv, none⟩] [12, 13] [])
 .ret))) }

end Go.AR
